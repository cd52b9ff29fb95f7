/- Parts of the proof, in short words: Rp Rr Gh Gc Gd Ge Gf Gg Gi -/
import Derived.Test.YtjofgpfocadomaaGreatDoorUs0
import Derived.Test.YtjofgpfocadomaaGreatDoorUs8
import Derived.Deep.RegionHeld2
import Derived.Deep.Cut
import Derived.StillTailTactics
import Derived.BigRegion
import Derived.Laws.StructEq
set_option maxRecDepth 100000
set_option maxHeartbeats 16000000
set_option linter.unusedSimpArgs false
namespace Go.Proofs.YtjofgpfocadomaaGreatDoor
open Go.RowKit
theorem UT{w:World}{a:ByteArray}(b:a.size<=maxLen):B9 (w.alloc (.cells #[.string a] 9)) ⟨some ⟨w.heap.size,0,none⟩,1,1⟩ 1 0 [a]:=by
 refine ⟨rfl,by simp,fun i hi=>?_⟩
 obtain rfl:i=0:=by simpa using hi
 have h:=World.alloc_heap_new w (.cells #[.string a] 9)
 refine ⟨w.heap.size,0,[.string a],rfl,by simp,rfl,BU ?_,by simp[Value.oneCell'],rfl,b⟩
 simp only[World.cell?,h]
 rfl
theorem GW{f:FuncId}{args:Array Value}{w:World}{b:Bool}(h:Calls Tryz.prog f args w (D7 w b))(hb:b=true):Calls Tryz.prog f args w fun e w'=>e=.returned (.tuple #[])∧Below w.heap.size w w':=
 h.mono fun e w' a=>by rw[hb] at a;exact ⟨a.2,a.1⟩
theorem Ju{f:FuncId}{args:Array Value}{w:World}{b:Bool}(h:Calls Tryz.prog f args w (D7 w b))(hb:b=false):Calls Tryz.prog f args w fun e w'=>e=.panicked (Er 170)∧Below w.heap.size w w':=
 h.mono fun e w' a=>by rw[hb] at a;exact ⟨a.2,a.1⟩
theorem T0{f:FuncId}{args:Array Value}{w:World}{b c:Bool}(h:Calls Tryz.prog f args w (My w b))(hb:b=c):Calls Tryz.prog f args w (My w c):=hb▸h
theorem Vv{Q:QT}{w V:World}{x:Ax}{L:Bq}{cs:LV}{N:NP}(hQ:KA Q w x)(X:Gl w x L cs N V)(hg:GV V)(hd:∀e∈Ay x,AB e.1<=1000000)
 (u0 u4 u5 u6 u7 u8 u9 e7 ea dr f8 ei ey fe fy ef dm f4 fz dv dd ew fq e1 eb e6 fa dx fi fj en e8 e2 fm dt ec ft fs fd dw dy et dl dz fg dk fc fu dn ee es f3 ej fv eg f2 ep df de e3 eh f1 e0 du fp dg fb ed el e5 f5 eo dq fh fk dp f7 ek e9 ez dh eq di e4 fl fw f6 em ex dj f9 eu fo ff g0 f0 fx d4 ce cm an cq ah bp ai bi cg bx cj cd bk cl b4 d6 ch d1 ak av bg bd am ag bj da cv az d5 ap cr ao ci co ay d7 cy b7 cp aw au cw al aq cc ck bt bu cx cn d8 cz be ax cu bq b0 ct db ar d9 cf aj bo ba ae b8 bz af bn d2 b5 bb:Value):
  Fz 32 Tryz.prog (GR 2 (Tryz.f32.body.getD .skip)) Q {tmps:=#[u0,.pointer (some ⟨w.heap.size,0,none⟩),.pointer (some ⟨w.heap.size+1,0,none⟩),.pointer (some ⟨w.heap.size+2,0,none⟩),u4,u5,u6,u7,u8,u9,e7,ea,dr,f8,ei,ey,fe,fy,ef,dm,f4,fz,dv,dd,ew,fq,e1,eb,e6,fa,dx,fi,fj,en,e8,e2,fm,dt,ec,ft,fs,fd,dw,dy,et,dl,dz,fg,dk,fc,fu,dn,ee,es,f3,ej,fv,eg,f2,ep,df,de,e3,eh,f1,e0,du,fp,dg,fb,ed,el,e5,f5,eo,dq,fh,fk,dp,f7,ek,e9,ez,dh,eq,di,e4,fl,fw,f6,em,ex,dj,f9,eu,fo,ff,g0,f0,fx,d4,ce,cm,an,cq,ah,bp,ai,bi,cg,bx,cj,cd,bk,cl,b4,d6,ch,d1,ak,av,bg,bd,am,ag,bj,da,cv,az,d5,ap,cr,ao,ci,co,ay,d7,cy,b7,cp,aw,au,cw,al,aq,cc,ck,bt,bu,cx,cn,d8,cz,be,ax,cu,bq,b0,ct,db,ar,d9,cf,aj,bo,ba,ae,b8,bz,af,bn,d2,b5,bb],defers:=[J2 w.heap.size]} V:=by
 have G:=yb (X.at.nms fun _ h=>h)
 have f:=yb X.cells
 have Y:Hid (w.heap.size < V.heap.size):=yb (by have:=X.size;omega)
 have HQ:=yb hQ;have HP:=yb X;have F:=yb hg
 have HS:Hid (BP (fun b=>b < V.heap.size) V {L with s:=w.heap.size} cs x):=yb (by have h:=X.at;exact ⟨h.name,h.cells,h.lets,h.crops,h.reaches,h.farms,h.rots,h.rights,h.duties⟩)
 have ab:=yb X.range
 have HD:=yb hd
 have ad:Hid (x.name.size<=maxLen):=yb X.src.name
 have M:Hid (∀(c:Int) tm wr,Ly w.heap.size tm->Below V.heap.size V wr->AF x=c->c≠0->Q (.panic (Er c)) {tmps:=tm,defers:=[J2 w.heap.size]} wr):=yb (fun c tm wr hv hb B hn=>by
  subst B
  exact hQ.fail tm wr hv (X.up (hb.mono X.size)).amid hn)
 clear hQ X hg hd
 unfold J2
 cases hf:Bz x with
 |false=>
  have HF:=yb hf
  clear hf
  refine A9 (A4 ?_)
  go_wp2_with (first|(go_at_call 44;refine (T0 (Jo HS.o ab.o (fun _ h=>h) Y.o HD.o) HF.o).mono ?_;rintro e w2 ⟨P,rfl⟩;have S:=yb P;clear P))
  exact M.o 2 _ _ ⟨rfl,rfl⟩ S.o (by unfold AF;rw[HF.o];rfl) (by decide)
 |true=>
  have HF:=yb hf
  clear hf
  have d:Hid (∀tm wr,Ly w.heap.size tm->Below V.heap.size V wr->CY x=false->Q (.panic (Er 170)) {tmps:=tm,defers:=[J2 w.heap.size]} wr):=yb (fun tm wr hv hb hn=>M.o 170 tm wr hv hb (by unfold AF;rw[HF.o,hn];rfl) (by decide))
  refine A9 (A4 ?_)
  go_wp2_with (first|(go_at_call 44;refine (T0 (Jo HS.o ab.o (fun _ h=>h) Y.o HD.o) HF.o).mono ?_;rintro e w2 ⟨P,rfl⟩;have S:=yb P;clear P))
  have B:w2.cell? (aV w.heap.size 0)=some (.string x.name):=(S.o.cell (p:=(aV w.heap.size 0)) Y.o).trans f.o.name
  have c8:Hid (B9 (w2.alloc (.cells #[.string x.name] 9)) ⟨some (aV w2.heap.size 0),1,1⟩ 1 0 [x.name]):=yb (UT ad.o)
  have U:Hid (Below V.heap.size V (w2.alloc (.cells #[.string x.name] 9))):=yb (S.o.alloc S.o.size _)
  have d0:Hid (GV (w2.alloc (.cells #[.string x.name] 9))):=yb (F.o.below U.o F.o.1)
  cases Z:Ar x.name with
  |false=>
   have t:=yb Z
   clear Z
   refine A9 (A4 ?_)
   go_wp2_with (first|(go_at_call 45;refine (Ju (LR (h:=⟨some (aV w2.heap.size 0),1,1⟩) c8.o d0.o) (by simp[t.o])).mono ?_;rintro e w3 ⟨rfl,K⟩;have q:=yb (U.o.trans (K.mono U.o.size));clear K))
   exact d.o _ _ ⟨rfl,rfl⟩ q.o (by unfold CY;rw[t.o];simp)
  |true=>
   have t:=yb Z
   clear Z
   refine A9 (A4 ?_)
   go_wp2_with (first|(go_at_call 45;refine (GW (LR (h:=⟨some (aV w2.heap.size 0),1,1⟩) c8.o d0.o) (by simp[t.o])).mono ?_;rintro e w3 ⟨rfl,K⟩;have q:=yb (U.o.trans (K.mono U.o.size));clear K))
   clear B
   have B:w3.cell? (aV w.heap.size 19)=some (.slice L.lets.a L.lets.n L.lets.c):=(q.o.cell (p:=(aV w.heap.size 19)) Y.o).trans f.o.lets
   have a0:=yb (G.o.lets.up q.o)
   have bh:Hid (GV w3):=yb (F.o.below q.o F.o.1)
   cases g:(x.lets.map (·.name)).all Ar with
   |false=>
    have z:=yb g
    clear g
    refine A9 (A4 ?_)
    go_wp2_with (first|(go_at_call 47;refine (Ju (LP a0.o bh.o) z.o).mono ?_;rintro e w4 ⟨rfl,J⟩;have r:=yb (q.o.trans (J.mono q.o.size));clear J))
    exact d.o _ _ ⟨rfl,rfl⟩ r.o (by unfold CY;rw[z.o];simp)
   |true=>
    have z:=yb g
    clear g
    refine A9 (A4 ?_)
    go_wp2_with (first|(go_at_call 47;refine (GW (LP a0.o bh.o) z.o).mono ?_;rintro e w4 ⟨rfl,J⟩;have r:=yb (q.o.trans (J.mono q.o.size));clear J))
    clear B
    have B:w4.cell? (aV w.heap.size 20)=some (.slice L.crops.a L.crops.n L.crops.c):=(r.o.cell (p:=(aV w.heap.size 20)) Y.o).trans f.o.crops
    have a2:=yb (G.o.crops.up r.o)
    have bm:Hid (GV w4):=yb (F.o.below r.o F.o.1)
    cases g:(x.crops.map (·.name)).all Ar with
    |false=>
     have E:=yb g
     clear g
     refine A9 (A4 ?_)
     go_wp2_with (first|(go_at_call 49;refine (Ju (K9 a2.o bm.o) E.o).mono ?_;rintro e w5 ⟨rfl,H⟩;have i:=yb (r.o.trans (H.mono r.o.size));clear H))
     exact d.o _ _ ⟨rfl,rfl⟩ i.o (by unfold CY;rw[E.o];simp)
    |true=>
     have E:=yb g
     clear g
     refine A9 (A4 ?_)
     go_wp2_with (first|(go_at_call 49;refine (GW (K9 a2.o bm.o) E.o).mono ?_;rintro e w5 ⟨rfl,H⟩;have i:=yb (r.o.trans (H.mono r.o.size));clear H))
     clear B
     have B:w5.cell? (aV w.heap.size 21)=some (.slice L.reaches.a L.reaches.n L.reaches.c):=(i.o.cell (p:=(aV w.heap.size 21)) Y.o).trans f.o.reaches
     have aa:=yb (G.o.reaches.up i.o)
     have b9:Hid (GV w5):=yb (F.o.below i.o F.o.1)
     cases g:(x.reaches.map (·.name)).all Ar with
     |false=>
      have u:=yb g
      clear g
      refine A9 (A4 ?_)
      go_wp2_with (first|(go_at_call 51;refine (Ju (Jk aa.o b9.o) u.o).mono ?_;rintro e w6 ⟨rfl,R⟩;have l:=yb (i.o.trans (R.mono i.o.size));clear R))
      exact d.o _ _ ⟨rfl,rfl⟩ l.o (by unfold CY;rw[u.o];simp)
     |true=>
      have u:=yb g
      clear g
      refine A9 (A4 ?_)
      go_wp2_with (first|(go_at_call 51;refine (GW (Jk aa.o b9.o) u.o).mono ?_;rintro e w6 ⟨rfl,R⟩;have l:=yb (i.o.trans (R.mono i.o.size));clear R))
      clear B
      have B:w6.cell? (aV w.heap.size 22)=some (.slice L.farms.a L.farms.n L.farms.c):=(l.o.cell (p:=(aV w.heap.size 22)) Y.o).trans f.o.farms
      have a8:=yb (G.o.farms.up l.o)
      have bv:Hid (GV w6):=yb (F.o.below l.o F.o.1)
      cases g:(x.farms.map (·.name)).all Ar with
      |false=>
       have A:=yb g
       clear g
       refine A9 (A4 ?_)
       go_wp2_with (first|(go_at_call 53;refine (Ju (Kb a8.o bv.o) A.o).mono ?_;rintro e w7 ⟨rfl,T⟩;have j:=yb (l.o.trans (T.mono l.o.size));clear T))
       exact d.o _ _ ⟨rfl,rfl⟩ j.o (by unfold CY;rw[A.o];simp)
      |true=>
       have A:=yb g
       clear g
       refine A9 (A4 ?_)
       go_wp2_with (first|(go_at_call 53;refine (GW (Kb a8.o bv.o) A.o).mono ?_;rintro e w7 ⟨rfl,T⟩;have j:=yb (l.o.trans (T.mono l.o.size));clear T))
       clear B
       have B:w7.cell? (aV w.heap.size 23)=some (.slice L.rots.a L.rots.n L.rots.c):=(j.o.cell (p:=(aV w.heap.size 23)) Y.o).trans f.o.rots
       have a6:=yb (G.o.rots.up j.o)
       have d3:Hid (GV w7):=yb (F.o.below j.o F.o.1)
       cases g:(x.rots.map (·.name)).all Ar with
       |false=>
        have C:=yb g
        clear g
        refine A9 (A4 ?_)
        go_wp2_with (first|(go_at_call 55;refine (Ju (LQ a6.o d3.o) C.o).mono ?_;rintro e w8 ⟨rfl,I⟩;have k:=yb (j.o.trans (I.mono j.o.size));clear I))
        exact d.o _ _ ⟨rfl,rfl⟩ k.o (by unfold CY;rw[C.o];simp)
       |true=>
        have C:=yb g
        clear g
        refine A9 (A4 ?_)
        go_wp2_with (first|(go_at_call 55;refine (GW (LQ a6.o d3.o) C.o).mono ?_;rintro e w8 ⟨rfl,I⟩;have k:=yb (j.o.trans (I.mono j.o.size));clear I))
        clear B
        have B:w8.cell? (aV w.heap.size 24)=some (.slice L.rights.a L.rights.n L.rights.c):=(k.o.cell (p:=(aV w.heap.size 24)) Y.o).trans f.o.rights
        have a7:=yb (G.o.rights.up k.o)
        have bw:Hid (GV w8):=yb (F.o.below k.o F.o.1)
        cases g:(x.rights.map (·.name)).all Ar with
        |false=>
         have v:=yb g
         clear g
         refine A9 (A4 ?_)
         go_wp2_with (first|(go_at_call 57;refine (Ju (Jl a7.o bw.o) v.o).mono ?_;rintro e w9 ⟨rfl,W⟩;have m:=yb (k.o.trans (W.mono k.o.size));clear W))
         exact d.o _ _ ⟨rfl,rfl⟩ m.o (by unfold CY;rw[v.o];simp)
        |true=>
         have v:=yb g
         clear g
         refine A9 (A4 ?_)
         go_wp2_with (first|(go_at_call 57;refine (GW (Jl a7.o bw.o) v.o).mono ?_;rintro e w9 ⟨rfl,W⟩;have m:=yb (k.o.trans (W.mono k.o.size));clear W))
         clear B
         have B:w9.cell? (aV w.heap.size 25)=some (.slice L.duties.a L.duties.n L.duties.c):=(m.o.cell (p:=(aV w.heap.size 25)) Y.o).trans f.o.duties
         have ac:=yb (G.o.duties.up m.o)
         have c9:Hid (GV w9):=yb (F.o.below m.o F.o.1)
         cases g:(x.duties.map (·.name)).all Ar with
         |false=>
          have D:=yb g
          clear g
          refine A9 (A4 ?_)
          go_wp2_with (first|(go_at_call 59;refine (Ju (Kc ac.o c9.o) D.o).mono ?_;rintro e dc ⟨rfl,y⟩;have O:=yb (m.o.trans (y.mono m.o.size));clear y))
          exact d.o _ _ ⟨rfl,rfl⟩ O.o (by unfold CY;rw[D.o];simp)
         |true=>
          have D:=yb g
          clear g
          refine A9 (A4 ?_)
          go_wp2_with (first|(go_at_call 59;refine (GW (Kc ac.o c9.o) D.o).mono ?_;rintro e dc ⟨rfl,y⟩;have O:=yb (m.o.trans (y.mono m.o.size));clear y))
          clear B
          have hn:CY x=true:=by
           unfold CY
           rw[t.o,z.o,E.o,u.o,A.o,C.o,v.o,D.o]
           rfl
          exact Vu HQ.o (HP.o.up (O.o.mono HP.o.size)) HF.o (by unfold AF;rw[HF.o,hn];rfl) _ _ _ _ _ _ _ _ _ _ _ _ _ _ _ _ _ _ _ _ _ _ _ _ _ _ _ _ _ _ _ _ _ _ _ _ _ _ _ _ _ _ _ _ _ _ _ _ _ _ _ _ _ _ _ _ _ _ _ _ _ _ _ _ _ _ _ _ _ _ _ _ _ _ _ _ _ _ _ _ _ _ _ _ _ _ _ _ _ _ _ _ _ _ _ _ _ _ _ _ _ _ _ _ _ _ _ _ _ _ _ _ _ _ _ _ _ _ _ _ _ _ _ _ _ _ _ _ _ _ _ _ _ _ _ _ _ _ _ _ _ _ _ _ _ _ _ _ _ _ _ _ _ _ _ _ _ _ _ _ _ _ _ _ _ _ _ _ _ _ _
def VT(w:World)(cs:LV):World:=((w.alloc (.cells cs.toArray 35)).alloc (.cells D8.toArray 35)).alloc (.cells #[.int .i64 0] 40)
theorem U6{w:World}{x:Ax}{L:Bq}{cs:LV}{N:NP}(h:BP N w L cs x)(hN:∀b,N b->b < w.heap.size)(a:MB x):Gl w x L cs N (VT w cs):=by
 unfold VT
 refine ⟨⟨(((yg _ _).alloc (yf _) _).alloc (by simp) _).alloc (by simp;omega) _,⟨D8.toArray,rfl,?_⟩,⟨iV 0,?_⟩⟩,?_,h,hN,a⟩
 ·rw[yA _ _ _ (by simp)]
  have:=World.alloc_heap_new (w.alloc (.cells cs.toArray 35)) (.cells D8.toArray 35)
  rwa [yY] at this
 ·have:=World.alloc_heap_new ((w.alloc (.cells cs.toArray 35)).alloc (.cells D8.toArray 35)) (.cells j8 40)
  rwa [yY,yY] at this
 ·rw[yA _ _ _ (by simp;omega),yA _ _ _ (by simp)]
  exact World.alloc_heap_new _ _
theorem O1{w:World}{x:Ax}{L:Bq}{cs:LV}{N:NP}(h:BP N w L cs x)(hN:∀b,N b->b < w.heap.size)(a:MB x)(f:GV w)(hd:∀e∈Ay x,AB e.1<=1000000):
  Calls Tryz.prog 32 #[.agg cs.toArray] w (Iy w x):=by
 have k:∀(fn:Fn) (first cap:Array Value) (w:World),(Instr.makeFunc fn first cap).run Tryz.prog w=.ok (.func fn first cap) w:=fun _ _ _ _=>rfl
 have d:=yb (U6 h hN a)
 have j:Hid (GV (VT w cs)):=yb (f.below d.o.amid.below f.1)
 have q:=yb hd
 obtain ⟨c0,c1,c2,rfl,i,g1,g⟩:=h.cells
 obtain ⟨y,t,rfl,l⟩:=i.cells
 obtain ⟨a1,u,rfl,r⟩:=g1.cells
 obtain ⟨s,z,rfl,m⟩:=g.cells
 clear h hN a f hd i g1 g l r m
 unfold As.v at*
 simp only[yK,yP] at d j ⊢
 refine Bb (n:=10) Tryz.func32 rfl ?_
 have c:=SU w x
 generalize bodyPostM Fence.wide 10 Tryz.prog Tryz.f32 (Iy w x)=Q at c ⊢
 have p:=yb c
 clear c
 simp only[Tryz.ntmps32,yM,yv,yE,Nat.reduceAdd,Nat.reduceSub,zx,zy,zM,zG,yP,yK]
 iterate 2
  refine A9 (A4 ?_)
  go_wp2
 exact Vv p.o d.o j.o q.o _ _ _ _ _ _ _ _ _ _ _ _ _ _ _ _ _ _ _ _ _ _ _ _ _ _ _ _ _ _ _ _ _ _ _ _ _ _ _ _ _ _ _ _ _ _ _ _ _ _ _ _ _ _ _ _ _ _ _ _ _ _ _ _ _ _ _ _ _ _ _ _ _ _ _ _ _ _ _ _ _ _ _ _ _ _ _ _ _ _ _ _ _ _ _ _ _ _ _ _ _ _ _ _ _ _ _ _ _ _ _ _ _ _ _ _ _ _ _ _ _ _ _ _ _ _ _ _ _ _ _ _ _ _ _ _ _ _ _ _ _ _ _ _ _ _ _ _ _ _ _ _ _ _ _ _ _ _ _ _ _ _ _ _ _ _ _ _ _ _ _
theorem LC{fn:Func}{t u:Tmp}{ty:TypeId}{tmps:Array Value}{P:Program}{w:World}{p:Addr}{v:Value}(h:fn.results=#[.cell t ty,.tmp u])(a:tmps.getD t undef=.pointer (some p))(b:(loadVar ty p).run P w=.ok v w):(results fn tmps).run P w=.ok (.tuple #[v,tmps.getD u undef]) w:=by
 rw[yB] at a
 simp[results,h,a,asAddr,b]
def GF(F:NP)(W:World)(b:Nat):Prop:=¬ F b∧b < W.heap.size
def Dg(F:NP)(W W':World):Prop:=W.heap.size<=W'.heap.size∧∀b,b < W.heap.size->¬ F b->W'.heap[b]?=W.heap[b]?
theorem Dg.refl(F:NP)(W:World):Dg F W W:=⟨yf _,fun _ _ _=>rfl⟩
theorem Dg.trans{F:NP}{a b c:World}(h:Dg F a b)(k:Dg F b c):Dg F a c:=⟨yt h.1 k.1,fun i hi d=>(k.2 i (yu hi h.1) d).trans (h.2 i hi d)⟩
theorem Dg.below{F:NP}{W W':World}(h:Below W.heap.size W W'):Dg F W W':=⟨h.size,fun b hb _=>h.block b hb⟩
theorem Dg.wide{F F':NP}{W W':World}(h:Dg F W W')(a:∀b,b < W.heap.size->F b->F' b):Dg F' W W':=⟨h.1,fun b hb c=>h.2 b hb (fun k=>c (a b hb k))⟩
theorem GF.up{F F':NP}{W W':World}(hs:W.heap.size<=W'.heap.size)(a:∀b,F' b->F b∨W.heap.size<=b){b:Nat}(h:GF F W b):GF F' W' b:=
 ⟨fun k=>(a b k).elim h.1 (fun hb=>absurd h.2 (Nat.not_lt.2 hb)),yu h.2 hs⟩
theorem AH.flux{F F':NP}{W W':World}{e:Ex}{cs:LV}(h:AH (GF F W) W e cs)(a:Dg F W W')(c:∀b,F' b->F b∨W.heap.size<=b):AH (GF F' W') W' e cs:=
 h.same (fun _ hb=>hb.up a.1 c) (fun b hb=>a.2 b hb.2 hb.1)
theorem AH.flux'{F:NP}{W W':World}{e:Ex}{cs:LV}(h:AH (GF F W) W e cs)(a:Dg F W W'):AH (GF F W') W' e cs:=h.flux a (fun _ k=>.inl k)
structure Dj (W W':World) (b:Nat) (c:List Value) (t:TypeId):Prop where
 os:W'.os=W.os
 tape:W'.tape=W.tape
 output:W'.output=W.output
 size:W'.heap.size=W.heap.size
 row:W'.heap[b]?=some (.cells c.toArray t (0,0))
 block:∀k,k≠b->W'.heap[k]?=W.heap[k]?
theorem Dj.below{W W':World}{b:Nat}{c:LV}{t:TypeId}(h:Dj W W' b c t){B:Nat}{a:World}(d:Below B a W)(hb:B<=b):Below B a W':=
 d.trans ⟨h.os,h.tape,h.output,by rw[h.size];exact yf _,fun k e=>h.block k (by omega)⟩
theorem Dj.flux{W W':World}{b:Nat}{c:LV}{t:TypeId}(h:Dj W W' b c t){F:NP}(a:F b):Dg F W W':=⟨by rw[h.size];exact yf _,fun k _ d=>h.block k (fun e=>d (e▸a))⟩
theorem AA{W:World}{b:Nat}{c:LV}{t:TypeId}{fr:Nat × Nat}(h:W.heap[b]?=some (.cells c.toArray t fr)):W.rangeAt b 0 c:=fun j v a=>by
 simp only[World.cell?,h,yw];simpa using a
theorem J5{W:World}{b o n:Nat}{c:LV}{t:TypeId}(h:W.heap[b]?=some (.cells c.toArray t (0,0)))(a:o+n<=c.length):W.there b o n:=fun j d=>by
 constructor
 ·simp only[World.cell?,h]
  simp;omega
 ·simp[World.frozen?,h]
theorem AE(b:Nat)(t:TypeId):∀(e:LV) (o:Nat) (w:World) (p m q:LV),w.heap[b]?=some (.cells (p++(m++q)).toArray t (0,0))->p.length=o->m.length=e.length->Dj w (w.setCells b o e) b (p++(e++q)) t
 |[],o,w,p,m,q,h,c,hm=>by
  obtain rfl:m=[]:=zr.1 hm
  exact ⟨rfl,rfl,rfl,rfl,h,fun _ _=>rfl⟩
 |v::r,o,w,p,[],q,h,c,hm=>by simp at hm
 |v::r,o,w,p,x::m,q,h,c,hm=>by
  rw[World.setCells]
  have a:Dj w (w.setCell ⟨b,o,none⟩ v) b ((p++[v])++(m++q)) t:=by
   refine ⟨rfl,rfl,rfl,by simp[World.setCell],?_,fun k d=>xE w (aV b o) v k d⟩
   simp only[World.setCell,yL,h,xm]
   simp only[xz,z8]
   congr 1
   subst c
   simp
  have hr:=AE b t r (o+1) (w.setCell (aV b o) v) (p++[v]) m q a.row (by simp[c]) (by simpa using hm)
  refine ⟨hr.os.trans a.os,hr.tape.trans a.tape,hr.output.trans a.output,hr.size.trans a.size,?_,fun k d=>(hr.block k d).trans (a.block k d)⟩
  have:=hr.row
  simpa using this
theorem JH{ops:Array Oper}{rest:List Oper}{op:Oper}{a:Act}{w:World}{Q:QT}(d:op.guard=none)(ty:TypeId)(x y:Operand)(e:op.op=.store ty x y)
 (b o:Nat)(f:a.eval x=.pointer (some ⟨b,o,none⟩))(c:LV)(g:a.eval y=.agg c.toArray){p m q:LV}{t:TypeId}(hb:w.heap[b]?=some (.cells (p++(m++q)).toArray t (0,0)))(j:p.length=o)(i:m.length=c.length)
 (hi:(Tryz.prog.info? ty).map (·.size)=some c.length)(h1:∀v∈c,v.oneCell'=true)
 (h:∀W',Dj w W' b (p++(c++q)) t->wpList Tryz.prog ops Q rest (a.put op.dst undef) W'):wpList Tryz.prog ops Q (op::rest) a w:=by
 refine wpList_store_mid d ty x y e b o c.toArray f g (J5 hb (by simp;omega)) (by rw[yM];exact hi) (z6 h1) ?_
 exact h _ (AE b t c o w p m q hb j i)
theorem A3{fn:Func}{t u:Tmp}{ty:TypeId}{R:Ending->World->Prop}{tm:Array Value}{W:World}{b:Nat}{c:LV}{d:TypeDesc}{a:TypeId}(h:fn.results=#[.cell t ty,.tmp u])(f:tm.getD t undef=.pointer (some ⟨b,0,none⟩))(hr:W.heap[b]?=some (.cells c.toArray a (0,0)))
 (g:Tryz.prog.underlying ty=some d)(hd:d.isRow=true)(hi:(Tryz.prog.info? ty).map (·.size)=some c.length)(e:R (.returned (.tuple #[.agg c.toArray,tm.getD u undef])) W):bodyPost Tryz.prog fn R .ret {tmps:=tm,defers:=[]} W:=
 zv (LC h f (run_loadVar_mid _ b 0 ty c d (AA hr) g hd hi)) rfl e
theorem Bv{fn:Func}{t:Tmp}{ty:TypeId}{R:Ending->World->Prop}{tm:Array Value}{W:World}{b:Nat}{c:LV}{d:TypeDesc}{a:TypeId}(h:fn.results=#[.cell t ty])(e:tm.getD t undef=.pointer (some ⟨b,0,none⟩))(hr:W.heap[b]?=some (.cells c.toArray a (0,0)))
 (g:Tryz.prog.underlying ty=some d)(hd:d.isRow=true)(hi:(Tryz.prog.info? ty).map (·.size)=some c.length)(f:R (.returned (.agg c.toArray)) W):bodyPost Tryz.prog fn R .ret {tmps:=tm,defers:=[]} W:=by
 refine zv ?_ rfl f
 have h2:(loadVar ty (aV b 0)).run Tryz.prog W=.ok (.agg c.toArray) W:=run_loadVar_mid _ b 0 ty c d (AA hr) g hd hi
 rw[yB] at e
 simp[results,h,e,asAddr,h2]
theorem Ei{ty:TypeId}{w:World}{p:Addr}{v:Value}{d:TypeDesc}(b:Tryz.prog.underlying ty=some d)(hd:d.isRow=false)(c:w.cell? p=some v):(loadVar ty p).run Tryz.prog w=.ok v w:=by
 have a:(isAgg ty).run Tryz.prog w=.ok false w:=by
  unfold isAgg
  rw[xq,xY b w]
  cases d<;>simp_all[TypeDesc.isRow]
 simp[loadVar,xq,a,c]
theorem FH{fn:Func}{t:Tmp}{ty:TypeId}{tmps:Array Value}{P:Program}{w:World}{p:Addr}{v:Value}(h:fn.results=#[.cell t ty])(a:tmps.getD t undef=.pointer (some p))(b:(loadVar ty p).run P w=.ok v w):(results fn tmps).run P w=.ok v w:=by
 rw[yB] at a
 simp[results,h,a,asAddr,b]
theorem Ae{P:Program}{x y:Code}{Q:QT}{a:Act}{w:World}(h:∀K:Act->World->Prop,Hid (∀a w,Code.wp P y Q a w->K a w)->Code.wp P x (Exit.then K Q) a w):Code.wp P (x.seq y) Q a w:=wp_seq (h _ (yb fun _ _ h=>h))
end Go.Proofs.YtjofgpfocadomaaGreatDoor
namespace Go.Proofs.YtjofgpfocadomaaGreatDoor
open Go.RowKit
set_option linter.unusedSimpArgs false
attribute [local go_sem] Oper.semAt_some
def T2(r:Nat):Array Value:=#[.int .u64 (r:Int)]
theorem O7{a b:Nat}(c:a≠0)(d:a % max b 1=0):E5 a b=[a,b]:=by
 rw[E5,yq c]
 by_cases hb:b=0
 ·rw[dif_pos hb,hb]
 ·rw[dif_neg hb,yD]
  rwa [Nat.max_eq_left (by omega)] at d
theorem Mf{a b:Nat}(d:a≠0)(c:a % max b 1≠0):E5 a b=a::E5 b (a % max b 1)∧a % max b 1 < b:=by
 by_cases hb:b=0
 ·rw[hb] at c;simp at c;omega
 ·have e:max b 1=b:=Nat.max_eq_left (by omega)
  rw[e] at c ⊢
  refine ⟨?_,Nat.mod_lt _ (by omega)⟩
  rw[E5,yq d,dif_neg hb,yq c]
def Lr(W:World)(B a:Nat):Prop:=W.heap[B]?=some (.cells #[.int .u64 (a:Int)] 73 (0,0))
theorem Lr.cell{W:World}{B a:Nat}(h:Lr W B a):W.cell? ⟨B,0,none⟩=some (.int .u64 (a:Int)):=by
 unfold Lr at h;simp[World.cell?,h]
theorem Lr.free{W:World}{B a:Nat}(h:Lr W B a):W.frozen? ⟨B,0,none⟩=false:=by
 unfold Lr at h;simp[World.frozen?,h]
theorem AZ{W:World}{B:Nat}{u v:Value}{t:TypeId}(h:W.heap[B]?=some (.cells #[u] t (0,0))):(W.setCell ⟨B,0,none⟩ v).heap[B]?=some (.cells #[v] t (0,0)):=by
 simp[World.setCell,yL,h]
theorem Ad(W:World){B c:Nat}(v:Value)(h:c≠B):(W.setCell ⟨B,0,none⟩ v).heap[c]?=W.heap[c]?:=by
 have:¬ B=c:=fun e=>h e.symm
 simp[World.setCell,yL,this]
theorem Lr.same{O:NP}{W W':World}{B a:Nat}(h:Lr W B a)(hs:AO O W W')(hb:O B):Lr W' B a:=(hs.2 B hb).trans h
def Vw(xs:List Nat)(d e:Nat)(J:Nat->NP->World->Prop)(f:World)(k a b:Nat)(W:World):Prop:=
 xs.drop k=E5 a b∧k<=xs.length∧J k (fun c=>c=d∨c=e) W∧f.heap.size<=W.heap.size∧Lr W d a∧Lr W e b∧(a:Int) < 18446744073709551616∧(b:Int) < 18446744073709551616
theorem T3(n:Nat)(hn:1<=n)(f d a b:Nat)(M:f≠d)(N:(a:Int) < 18446744073709551616)(T:(b:Int) < 18446744073709551616)(w0:World)(w:Lr w0 f a)(hb:Lr w0 d b):
  Vh Fence.wide n Tryz.prog 78 #[.pointer (some ⟨f,0,none⟩),.pointer (some ⟨d,0,none⟩)] (fun c=>c=f∨c=d) w0 (fun _=>True) ((E5 a b).map T2) none:=by
 intro l J Jx Jp W hJ a2 _ am ak _ i R A h0
 obtain ⟨xs,H⟩:∃xs,xs=E5 a b:=⟨_,rfl⟩
 have HR:=yb i
 have ac:=yb hJ
 have ao:=yb a2
 have H0:Hid (Vw xs f d J W 0 a b W):=yb ⟨by rw[H];rfl,yH _,h0,yf _,w.same A (.inl rfl),hb.same A (.inr rfl),N,T⟩
 have HK:=yb R
 rw[<-H] at HR ⊢
 simp only[yT] at*
 clear i hJ a2 h0 w hb R A N T H
 refine yX.2 ?_
 go_enter Tryz.func78,Tryz.ntmps78
 go_wp2
 go_loopw [] (fun wr=>∃k a b:Nat,Hid (Vw xs f d J W k a b wr)) (fun wr=>match wr.cell? (aV d 0) with|some v=>(intOf v).toNat|none=>0)
 case atStart=>exact ⟨0,a,b,H0⟩
 case round=>
  obtain ⟨k,a,b,g⟩:=hrel
  have ca:=g.o.2.2.2.2.1.cell
  have cb:=g.o.2.2.2.2.2.1.cell
  by_cases w:a=0
  ·subst w
   go_wp2
   have L:k=xs.length:=by
    have h:=g.o.1
    rw[E5,yD rfl] at h
    have:=List.drop_eq_nil_iff.1 h
    have:=g.o.2.1
    omega
   refine bodyPost_end (zn rfl _ _ _) rfl (.inl ⟨⟨_,rfl⟩,.inl ⟨trivial,(fun c=>c=f∨c=d),?_⟩⟩)
   have h2:=g.o.2.2.1
   rwa [L] at h2
  ·have an:((a:Int) !=0)=true:=by simpa using w
   have hdr:=g.o.1
   have L:k < xs.length:=by
    have:=g.o.2.1
    have h3:xs.drop k≠ []:=by rw[hdr];exact QC w
    have:¬ xs.length<=k:=fun h=>h3 (List.drop_eq_nil_iff.2 h)
    omega
   have p:(xs.map T2)[k]'(by simpa using L)=#[.int .u64 (a:Int)]:=by
    have S:=zW L
    have e2:xs[k]=a:=by
     rw[hdr] at S
     by_cases x:a % max b 1=0
     ·rw[O7 w x] at S;exact (zT S).1.symm
     ·rw[(Mf w x).1] at S;exact (zT S).1.symm
    rw[zE,e2];rfl
   obtain ⟨ah,z,j,E,D,s⟩:=HR.o k L (fun c=>c=f∨c=d) wr g.o.2.2.1 g.o.2.2.2.1 (fun c t=>⟨.inl t,by have:=HK.o c t;have:=g.o.2.2.2.1;omega⟩)
   rw[p] at D
   have ab:=yb s
   clear s p hdr
   go_upto_region 0 with fail
   refine (xZ (n:=n)).1 ?_
   gi_wp2
   refine ab.o.mono ?_
   rintro e u (⟨rfl,P,hs⟩|⟨rfl,hx,hs⟩|⟨ch,rfl,hp,hs⟩)
   rotate_left
   ·have ae:=yb hx
    clear hx hs D
    gi_wp2
    go_wp2
    exact bodyPost_end (zn rfl _ _ _) rfl (.inl ⟨⟨_,rfl⟩,.inr ⟨_,ae.o⟩⟩)
   ·exact ⟨rfl,.inr ⟨ch,rfl,_,hp⟩⟩
   clear D ca cb
   have ad:=yb P
   have ai:=yb hs
   have HA:=yb (g.o.2.2.2.2.1.same hs (.inl rfl))
   have HB:=yb (g.o.2.2.2.2.2.1.same hs (.inr rfl))
   have ca:=HA.o.cell
   have cb:=HB.o.cell
   have fa:=HA.o.free
   have fb:=HB.o.free
   clear P hs
   gi_wp2
   go_wp2
   have af:(if (b:Int) < 1 then (1:Int) else b)=((max b 1:Nat):Int):=by split<;>omega
   obtain ⟨m,x⟩:∃m,m=max b 1:=⟨_,rfl⟩
   have aq:((m:Int)==0)=false:=by simp;omega
   rw[<-x] at af
   have ap:max (b:Int) 1=(m:Int):=by omega
   have q:∀(c:Nat) (o:Obj),(((u.setCell (aV f 0) (.int .u64 (b:Int))).setCell (aV d 0) (.int .u64 ((a:Int) % (m:Int)))).heap[c]?=some o->(((u.setCell (aV f 0) (.int .u64 (b:Int))).setCell (aV d 0) (.int .u64 ((a:Int) % (m:Int)))).drew).heap[c]?=some o):=fun _ _ h=>h
   have y:Hid (Lr (((u.setCell (aV f 0) (.int .u64 (b:Int))).setCell (aV d 0) (.int .u64 ((a:Int) % (m:Int)))).drew) d (a % m)):=yb (by
    have:=AZ (v:=.int .u64 ((a:Int) % (m:Int))) ((Ad u (.int .u64 (b:Int)) (fun e=>M e.symm)).trans HB.o)
    rw[Lr,q _ _ this];simp)
   have F:Hid (Lr (((u.setCell (aV f 0) (.int .u64 (b:Int))).setCell (aV d 0) (.int .u64 ((a:Int) % (m:Int)))).drew) f b):=yb (q _ _ ((Ad _ _ M).trans (AZ HA.o)))
   have G:(((u.setCell (aV f 0) (.int .u64 (b:Int))).setCell (aV d 0) (.int .u64 ((a:Int) % (m:Int)))).drew).heap.size=u.heap.size:=by simp
   have I:Hid (J (k+1) (fun c=>c=f∨c=d) (((u.setCell (aV f 0) (.int .u64 (b:Int))).setCell (aV d 0) (.int .u64 ((a:Int) % (m:Int)))).drew)):=yb (ac.o _ _ _ _ _ ad.o (Nat.le_of_eq G.symm) rfl rfl rfl (fun c t _=>by
    have h1:c≠f:=fun e=>t (.inl e)
    have h2:c≠d:=fun e=>t (.inr e)
    exact (Ad _ _ h2).trans (Ad _ _ h1)) (fun c t=>.inl t))
   have Q:W.heap.size<=u.heap.size:=yt g.o.2.2.2.1 ai.o.1
   generalize O:(((u.setCell (aV f 0) (.int .u64 (b:Int))).setCell (aV d 0) (.int .u64 ((a:Int) % (m:Int)))).drew)=W4 at F y I G
   have C:Hid (W.heap.size<=W4.heap.size):=yb (by omega)
   have a6:Hid (∀c,(c=f∨c=d)->((c=f∨c=d)∨W.heap.size<=c)∧c < W4.heap.size):=yb (fun c t=>⟨.inl t,by have:=HK.o c t;have:=C.o;omega⟩)
   clear G Q q
   have HM:=yb x
   have X:((a:Int) % (m:Int))=((a % m:Nat):Int):=by simp
   have a0:=yb X
   clear X
   by_cases K:a % m=0
   ·have ag:((a:Int) % (m:Int)==0)=true:=by
     rw[a0.o,K];rfl
    rw[x] at K
    have hdr:=g.o.1
    rw[O7 w K] at hdr
    have U:xs.length=k+2:=by
     have:=yC List.length hdr
     simp at this;omega
    have p:(xs.map T2)[k+1]'(by simp;omega)=#[.int .u64 (b:Int)]:=by
     have e2:xs[k+1]'(by omega)=b:=by
      have:=yC (fun l=>l[1]?) hdr
      simp[List.getElem?_drop] at this
      rw[yk (by omega)] at this
      exact yi this
     rw[zE,e2];rfl
    obtain ⟨ah,z,j,E,D,s⟩:=HR.o (k+1) (by omega) (fun c=>c=f∨c=d) W4 I.o C.o a6.o
    rw[p] at D
    have V:=yb s
    have a7:=yb U
    have Y:=y.o.cell
    have al:=F.o.cell
    clear s p hdr U K x
    go_region
    clear O
    go_upto_region 3 with fail
    refine (xZ (n:=n)).1 ?_
    gi_wp2
    refine V.o.mono ?_
    rintro e W5 (⟨rfl,P,hs⟩|⟨rfl,hx,hs⟩|⟨ch,rfl,hp,hs⟩)
    ·have aj:=yb P
     clear P hs D
     gi_wp2
     go_wp2
     refine zv (zn rfl _ _ _) rfl (.inl ⟨⟨_,rfl⟩,.inl ⟨trivial,(fun c=>c=f∨c=d),?_⟩⟩)
     have:=aj.o
     rwa [show k+1+1=xs.length by have:=a7.o;omega] at this
    ·have a8:=yb hx
     clear hx hs D
     gi_wp2
     go_wp2
     exact zv (zn rfl _ _ _) rfl (.inl ⟨⟨_,rfl⟩,.inr ⟨_,a8.o⟩⟩)
    ·exact ⟨rfl,.inr ⟨ch,rfl,_,hp⟩⟩
   ·have ag:((a:Int) % (m:Int)==0)=false:=by
     rw[a0.o];simp;omega
    have HZ:Hid (¬ a % max b 1=0):=yb (by rw[<-x];exact K)
    have Y:=y.o.cell
    clear K x
    go_region
    clear O
    go_wp2
    have B:=Mf w HZ.o
    have Z:W4.cell? (aV d 0)=some (.int .u64 ((a % max b 1:Nat):Int)):=by rw[<-HM.o];exact Y
    have aa:=g.o.2.2.2.2.2.1.cell
    refine ⟨⟨k+1,b,a % max b 1,yb ⟨?_,by have:=g.o.2.1;omega,I.o,C.o,F.o,by rw[<-HM.o];exact y.o,g.o.2.2.2.2.2.2.2,?_⟩⟩,?_⟩
    ·have h1:=g.o.1
     rw[B.1,zW L] at h1
     exact (zT h1).2
    ·have:=g.o.2.2.2.2.2.2.2
     have:=B.2
     omega
    ·rw[Z,aa]
     have:=B.2
     generalize a % max b 1=r at this ⊢
     show (r:Int).toNat < (b:Int).toNat
     omega
end Go.Proofs.YtjofgpfocadomaaGreatDoor
namespace Go.Proofs.YtjofgpfocadomaaGreatDoor
open Go.RowKit
set_option linter.unusedSimpArgs false
attribute [local go_sem] Oper.semAt_some
theorem KK(a b:Int)(w:World):Calls Tryz.prog 41 #[.int .u64 a,.int .u64 b] w fun e w'=>e=.returned (.func (.func 78) #[] #[.pointer (some ⟨w.heap.size,0,none⟩),.pointer (some ⟨w.heap.size+1,0,none⟩)])∧w'=(w.alloc (.cells #[.int .u64 a] 73)).alloc (.cells #[.int .u64 b] 73):=by
 have c:∀(fn:Fn) (first cap:Array Value) (w:World),(Instr.makeFunc fn first cap).run Tryz.prog w=.ok (.func fn first cap) w:=fun _ _ _ _=>rfl
 go_enter Tryz.func41,Tryz.ntmps41
 go_wp2
 go_ret
 exact ⟨rfl,rfl⟩
theorem KL(d:Nat):∀(l:List Nat) (k:Nat) (h:k < l.length),I3 d (l.take (k+1))=l[k]
 |[],k,h=>absurd h (by simp)
 |x::r,0,_=>rfl
 |x::r,k+1,h=>by
  have a:k < r.length:=by simpa using h
  show I3 x (r.take (k+1))=r[k]
  rw[O6 (by cases r with|nil=>simp at a|cons y s=>simp) x d]
  exact KL d r k a
def DJ(g:Nat)(w:World)(d:Nat)(xs:List Nat)(k:Nat)(O:NP)(W:World):Prop:=(∀b,O b->g < b)∧Below g w W∧g < W.heap.size∧Lr W g (I3 d (xs.take k))
theorem DJ.stays{g:Nat}{w:World}{d:Nat}{xs:List Nat}:Ca (DJ g w d xs):=by
 intro k O W p W' e l i j c a f
 have n:=e.2.2.1
 have m:∀b,b<=g->¬ O b:=fun b hb o=>by have:=e.1 b o;omega
 refine ⟨fun b hb=>(f b hb).elim (e.1 b) (fun h=>by omega),e.2.1.trans ⟨i,j,c,l,fun b hb=>a b (m b (by omega)) (by omega)⟩,by omega,(a g (m g (yf _)) n).trans e.2.2.2⟩
theorem Jw(a b:Nat)(q:(a:Int) < 18446744073709551616)(p:(b:Int) < 18446744073709551616)(w:World):
  Calls Tryz.prog 29 #[.int .u64 a,.int .u64 b] w fun e w'=>e=.returned (.int .u64 (Nat.gcd a b:Int))∧Below w.heap.size w w':=by
 by_cases hb:b=0
 ·subst hb
  go_enter Tryz.func29,Tryz.ntmps29
  go_wp2
  refine zv (FH rfl rfl (Ei qZ rfl ?_)) rfl ⟨rfl,?_⟩
  ·rw[Nat.gcd_zero_right]
   simp only[World.cell?,World.alloc_heap_new]
   simp
  ·exact (yg _ _).alloc (yf _) _
 have U:((b:Int)==0)=false:=by simpa using hb
 have E:=yb q
 have I:=yb p
 have HB:=yb hb
 clear q p hb
 refine Bb (n:=10) Tryz.func29 rfl ?_
 simp only[Tryz.ntmps29,yM,yv,yE,Nat.reduceAdd,Nat.reduceSub,zx,zy,zM,zG,yP,yK]
 iterate 3
  refine A9 (A4 ?_)
  go_wp2
 refine A9 ?_
 refine A9 (A4 ?_)
 go_wp2_with (first|(go_at_call 41;refine (KK _ _ _).mono ?_;rintro e w2 ⟨rfl,rfl⟩))
 refine D4 ?_
 have Q:Hid (∀W,W=((w.alloc (.cells #[.int .u64 (b:Int)] 73)).alloc (.cells #[.int .u64 (a:Int)] 73)).alloc (.cells #[.int .u64 (b:Int)] 73)->Lr W w.heap.size b∧Lr W (w.heap.size+1) a∧Lr W (w.heap.size+1+1) b∧Below w.heap.size w W∧W.heap.size=w.heap.size+3):=yb (by
  rintro W rfl
  refine ⟨?_,?_,?_,(((yg _ _).alloc (yf _) _).alloc (by simp) _).alloc (by simp;omega) _,by simp⟩
  ·exact (yA _ _ _ (by simp;omega)).trans ((yA _ _ _ (by simp)).trans (World.alloc_heap_new w _))
  ·have:=World.alloc_heap_new (w.alloc (.cells #[.int .u64 (b:Int)] 73)) (.cells #[.int .u64 (a:Int)] 73)
   rw[yY] at this
   exact (yA _ _ _ (by simp)).trans this
  ·have:=World.alloc_heap_new ((w.alloc (.cells #[.int .u64 (b:Int)] 73)).alloc (.cells #[.int .u64 (a:Int)] 73)) (.cells #[.int .u64 (b:Int)] 73)
   rw[yY,yY] at this
   exact this)
 generalize s:((w.alloc (.cells #[.int .u64 (b:Int)] 73)).alloc (.cells #[.int .u64 (a:Int)] 73)).alloc (.cells #[.int .u64 (b:Int)] 73)=P
 obtain ⟨n0,n1,n2,v,M⟩:=Q.o P s.symm
 clear s Q
 generalize hg:w.heap.size=g at*
 have H:=yb v
 have A:=yb M
 clear v M
 refine Nj (n:=10) (K:=fun c=>c=g+1∨c=g+1+1) Tryz.func29 rfl (fun _ _=>rfl) (fun c j=>by have:=A.o;omega) (T3 9 (by omega) (g+1) (g+1+1) a b (by omega) E.o I.o P n1 n2) (fun x hx=>by
   obtain ⟨r, -,rfl⟩:=xO.1 hx;rfl)
  (DJ g w b (E5 a b)) (fun _ _ _=>False) (fun _ _ _=>False)
  (fun k N O W=>DJ g w b (E5 a b) k O W∧∃z,N={tmps:=#[.int .u64 a,.int .u64 b,undef,undef,pV g 0,.int .u64 (((E5 a b).getD k 0:Nat):Int),.int .u64 b,.bool false,undef,.int .u64 b,.int .u64 a,.int .u64 b,.func (.func 78) #[] #[pV (g+1) 0,pV (g+1+1) 0],z,undef,undef],defers:=[]})
  DJ.stays (fun _ _ _ _ _ _ h=>h.elim) (fun _ _ _ _ _ _ h=>h.elim) (fun N k O W T W' h h1 h2 h3 X V R=>⟨DJ.stays k O W T W' h.1 h1 h2 h3 X V R,h.2⟩) (fun _ _ _ _=>trivial) (fun _ _ _ h=>h.elim) (fun _ h=>by cases h) ?_ ?_ ?_ ?_ (fun _ _ _ _ _ _ h=>h.elim) (fun _ _ _ _ _ _ h=>h.elim)
 ·refine ⟨fun c j=>by rcases j with rfl|rfl<;>omega,H.o,by have:=A.o;omega,?_⟩
  exact n0
 ·intro k B O W l f S G _
  have i:k < (E5 a b).length:=by simpa using B
  obtain ⟨r,h1,h2⟩:∃r:Nat,((E5 a b).map T2)[k]=#[.int .u64 (r:Int)]∧(E5 a b).getD k 0=r:=⟨(E5 a b)[k],by rw[zE];rfl,by simp[List.getD,i]⟩
  rw[h1,h2]
  have d:=yb f
  clear f S G h1 h2 B i
  gi_wp2
  first
  |exact ⟨AO.refl _ _,d.o,_,rfl⟩
  |(rename_i L;exact L _ _ ⟨AO.refl _ _,d.o,_,rfl⟩)
  |(rename_i L _;exact L _ _ ⟨AO.refl _ _,d.o,_,rfl⟩)
 ·rintro k B O W l a1 G t Y ⟨f,z,rfl⟩
  have i:k < (E5 a b).length:=by simpa using B
  have hr:I3 b ((E5 a b).take (k+1))=(E5 a b).getD k 0:=by
   rw[KL _ _ _ i];simp[List.getD,i]
  have HR:=yb hr
  generalize (E5 a b).getD k 0=r at*
  have d:=yb f
  have j:=f.2.2.2.cell
  have hf:=f.2.2.2.free
  clear f G t hr
  gi_wp2
  refine ⟨⟨by simp,fun c j=>Ad _ _ (by have:=d.o.1 c j;omega)⟩,d.o.1,d.o.2.1.trans ⟨rfl,rfl,rfl,by simp,fun c j=>Ad _ _ (by omega)⟩,by have:=d.o.2.2.1;simpa using this,?_⟩
  rw[HR.o]
  exact AZ d.o.2.2.2
 ·rintro - D O W hD - f y
  have hr:I3 b ((E5 a b).take ((E5 a b).map T2).length)=Nat.gcd a b:=by
   rw[yT,yQ];exact T1 b a HB.o
  have d:=yb f
  have u:=f.2.2.2
  rw[hr] at u
  have j:=u.cell
  have hf:=u.free
  have Z:=yb u
  have HD:=yb y
  clear f hr u y
  refine A4 ?_
  go_wp2
  have m:D≠g:=by have:=A.o;omega
  have J:(W.setCell (aV g 0) (.int .u64 ((Nat.gcd a b:Nat):Int))).heap[D]?=some (.deferred (some [])):=(Ad _ _ m).trans HD.o
  have C:Lr (W.setCell (aV g 0) (.int .u64 ((Nat.gcd a b:Nat):Int))) g (Nat.gcd a b):=AZ Z.o
  have F:Below g w (W.setCell (aV g 0) (.int .u64 ((Nat.gcd a b:Nat):Int))):=d.o.2.1.trans ⟨rfl,rfl,rfl,by simp,fun c j=>Ad _ _ (by omega)⟩
  refine ⟨by simp,.inl ⟨_,_,rfl,run_takeDeferred J,⟨_,FH rfl rfl (Ei qZ rfl ((Lr.cell (a:=Nat.gcd a b) (World.putObj_heap_other (zX m) |>.trans C)))),rfl,IW F (by have:=A.o;omega) _⟩⟩⟩
end Go.Proofs.YtjofgpfocadomaaGreatDoor
namespace Go.Proofs.YtjofgpfocadomaaGreatDoor
open Go.RowKit
set_option linter.unusedSimpArgs false
def Rt.v(r:Rt):Value:=.agg #[.int .i64 r.n,.int .i64 r.d]
def PA(b:Bool):Int:=if b=true then 0 else 120
theorem KM(r:Rt)(w:World):Calls Tryz.prog 42 #[r.v] w fun e w'=>e=.returned (.int .i64 (PA (BD r)))∧Below w.heap.size w w':=by
 obtain ⟨n,d⟩:=r
 unfold Rt.v
 dsimp only
 by_cases h1:1<=d
 rotate_left
 ·have e1:decide (d < 1)=true:=by simp[Da] at h1 ⊢;omega
  have hf:Hid (BD ⟨n,d⟩=false):=yb (by unfold BD;simp[*])
  clear h1
  go_enter Tryz.func42,Tryz.ntmps42
  go_wp2
  go_region
  go_wp2
  go_ret
  exact ⟨by rw[hf.o];rfl,((yg _ _).alloc (yf _) _).drew⟩
 have e1:decide (d < 1)=false:=by simp[Da] at h1 ⊢;omega
 by_cases h2:d<=Da
 rotate_left
 ·have e2:decide (1073741824 < d)=true:=by simp[Da] at h2 ⊢;omega
  have hf:Hid (BD ⟨n,d⟩=false):=yb (by unfold BD;simp[*])
  clear h1 h2
  go_enter Tryz.func42,Tryz.ntmps42
  go_wp2
  go_region
  go_wp2
  go_ret
  exact ⟨by rw[hf.o];rfl,((yg _ _).alloc (yf _) _).drew⟩
 have e2:decide (1073741824 < d)=false:=by simp[Da] at h2 ⊢;omega
 by_cases h3: -Da<=n
 rotate_left
 ·have e3:decide (n < -1073741824)=true:=by simp[Da] at h3 ⊢;omega
  have hf:Hid (BD ⟨n,d⟩=false):=yb (by unfold BD;simp[*])
  clear h1 h2 h3
  go_enter Tryz.func42,Tryz.ntmps42
  go_wp2
  go_region
  go_wp2
  go_ret
  exact ⟨by rw[hf.o];rfl,((yg _ _).alloc (yf _) _).drew⟩
 have e3:decide (n < -1073741824)=false:=by simp[Da] at h3 ⊢;omega
 by_cases h4:n<=Da
 rotate_left
 ·have e4:decide (1073741824 < n)=true:=by simp[Da] at h4 ⊢;omega
  have hf:Hid (BD ⟨n,d⟩=false):=yb (by unfold BD;simp[*])
  clear h1 h2 h3 h4
  go_enter Tryz.func42,Tryz.ntmps42
  go_wp2
  go_region
  go_wp2
  go_ret
  exact ⟨by rw[hf.o];rfl,((yg _ _).alloc (yf _) _).drew⟩
 have e4:decide (1073741824 < n)=false:=by simp[Da] at h4 ⊢;omega
 have HC:Hid (BD ⟨n,d⟩=decide (Int.gcd n d=1)):=yb (by unfold BD;simp[h1,h2,h3,h4])
 have HM:Hid (∀W,Calls Tryz.prog 28 #[.int .i64 n] W fun e w'=>e=.returned (.int .u64 (n.natAbs:Int))∧w'=W):=yb (fun W=>FA n (by unfold Da at h3;omega) (by unfold Da at h4;omega) W)
 obtain ⟨k,hk⟩:∃k:Nat,k=d.toNat:=⟨_,rfl⟩
 have hk1:(k:Int)=d:=by omega
 have hw:IntKind.u64.wrap d=(k:Int):=by rw[GK,hk1];unfold Da at h2;omega
 have HG:Hid (Int.gcd n d=Nat.gcd n.natAbs k):=yb (by unfold Int.gcd;congr 1;omega)
 have HD:Hid (∀W,Calls Tryz.prog 29 #[.int .u64 (n.natAbs:Int),.int .u64 (k:Int)] W fun e w'=>e=.returned (.int .u64 ((Nat.gcd n.natAbs k:Nat):Int))∧Below W.heap.size W w'):=yb (fun W=>Jw n.natAbs k (by unfold Da at h3 h4;omega) (by unfold Da at h2;omega) W)
 clear h1 h2 h3 h4 hk hk1
 generalize n.natAbs=m at*
 generalize Nat.gcd m k=g at*
 rw[HC.o,HG.o]
 clear HC HG
 have HS1:Hid ((w.alloc (.cells #[.int .i64 n,.int .i64 d] 44)).drew.cell? ⟨w.heap.size,0,none⟩=some (.int .i64 n)∧(w.alloc (.cells #[.int .i64 n,.int .i64 d] 44)).drew.cell? ⟨w.heap.size,1,none⟩=some (.int .i64 d)):=yb (by
  have h:=World.alloc_heap_new w (.cells #[.int .i64 n,.int .i64 d] 44)
  simp only[World.cell?,World.drew,h];simp)
 have HB1:Hid (Below w.heap.size w (w.alloc (.cells #[.int .i64 n,.int .i64 d] 44)).drew):=yb (((yg _ _).alloc (yf _) _).drew)
 go_enter Tryz.func42,Tryz.ntmps42
 go_wp2
 go_region_held3 (fun w'=>w'.cell? ⟨w.heap.size,0,none⟩=some (.int .i64 n)∧w'.cell? ⟨w.heap.size,1,none⟩=some (.int .i64 d)) (first|exact HS1.o|exact HS2.o) (first|(go_at_call 28;refine (HM.o _).mono ?_;rintro e w2 ⟨rfl,rfl⟩)|(go_at_call 29;refine (HD.o _).mono ?_;rintro e w2 ⟨rfl,hw2⟩;have HS2:=yb (And.intro ((hw2.cell (p:=⟨w.heap.size,0,none⟩) (yO _ _ HS1.o.1)).trans HS1.o.1) ((hw2.cell (p:=⟨w.heap.size,1,none⟩) (yO _ _ HS1.o.2)).trans HS1.o.2));have HB2:=yb (HB1.o.trans (hw2.mono HB1.o.size));clear hw2))
 by_cases hg:g=1
 ·have hgi:((g:Int) !=1)=false:=by simp[hg]
  have hgo:Hid (PA (decide (g=1))=0):=yb (by simp[hg,PA])
  clear hg
  go_wp2
  go_ret
  exact ⟨by rw[hgo.o];rfl,HB2.o⟩
 ·have hgi:((g:Int) !=1)=true:=by simp;omega
  have hgo:Hid (PA (decide (g=1))=120):=yb (by simp[hg,PA])
  clear hg
  go_wp2
  go_ret
  exact ⟨by rw[hgo.o];rfl,HB2.o⟩
theorem Dv{W:World}{b:Nat}{x y:Value}{t:TypeId}(h:W.heap[b]?=some (.cells #[x,y] t (0,0))):W.cell? ⟨b,0,none⟩=some x∧W.cell? ⟨b,1,none⟩=some y∧W.frozen? ⟨b,0,none⟩=false∧W.frozen? ⟨b,1,none⟩=false:=by
 refine ⟨?_,?_,?_,?_⟩
 ·simp only[World.cell?,h];simp
 ·simp only[World.cell?,h];simp
 ·simp[World.frozen?,h]
 ·simp[World.frozen?,h]
theorem KN(x:Int)(h1: -9223372036854775808<=x)(h2:x < 9223372036854775808):IntKind.i64.wrap x=x:=by
 rw[IntKind.wrap_i64];omega
theorem Db{W:World}{b:Nat}{x y v:Value}{t:TypeId}(h:W.heap[b]?=some (.cells #[x,y] t (0,0))):(W.setCell ⟨b,0,none⟩ v).heap[b]?=some (.cells #[v,y] t (0,0)):=by
 simp[World.setCell,yL,h]
theorem Dk{W:World}{b:Nat}{x y v:Value}{t:TypeId}(h:W.heap[b]?=some (.cells #[x,y] t (0,0))):(W.setCell ⟨b,1,none⟩ v).heap[b]?=some (.cells #[x,v] t (0,0)):=by
 simp[World.setCell,yL,h]
theorem A5{B:Nat}{a W:World}(h:Below B a W){b o:Nat}(hb:B<=b)(v:Value):Below B a (W.setCell ⟨b,o,none⟩ v):=
 h.trans ⟨rfl,rfl,rfl,by simp,fun k hk=>xE W ⟨b,o,none⟩ v k (by show k≠b;omega)⟩
theorem Ru(n d:Int)(h1: -4611686018427387904<=n)(h2:n<=4611686018427387904)(h3: -4611686018427387904<=d)(h4:d<=4611686018427387904)(w:World):Calls Tryz.prog 14 #[.int .i64 n,.int .i64 d] w fun e w'=>e=.returned (.tuple #[(Gs n d).1.v,.int .i64 (Gs n d).2])∧Below w.heap.size w w':=by
 by_cases hd:d=0
 ·have hm:Hid (Gs n d=(IP,120)):=yb (by unfold Gs;rw[yD hd])
  have hdi:(d==0)=true:=by simpa using hd
  rw[hm.o]
  clear hd hm
  go_enter Tryz.func14,Tryz.ntmps14
  go_wp2
  exact A3 rfl rfl (World.alloc_heap_new _ _) qS rfl (by kernel_rfl) ⟨rfl,(yg _ _).alloc (yf _) _⟩
 have HM:Hid (∀W,Calls Tryz.prog 28 #[.int .i64 n] W fun e w'=>e=.returned (.int .u64 (n.natAbs:Int))∧w'=W):=yb (fun W=>FA n h1 h2 W)
 have HM2:Hid (∀W,Calls Tryz.prog 28 #[.int .i64 d] W fun e w'=>e=.returned (.int .u64 (d.natAbs:Int))∧w'=W):=yb (fun W=>FA d h3 h4 W)
 have HD:Hid (∀W,Calls Tryz.prog 29 #[.int .u64 (n.natAbs:Int),.int .u64 (d.natAbs:Int)] W fun e w'=>e=.returned (.int .u64 ((Int.gcd n d:Nat):Int))∧Below W.heap.size W w'):=yb (fun W=>Jw n.natAbs d.natAbs (by omega) (by omega) W)
 have hdi:(d==0)=false:=by simpa using hd
 have hgp:0 < Int.gcd n d:=Int.gcd_pos_of_ne_zero_right n hd
 have hg0:((Int.gcd n d:Int)==0)=false:=by simp;intro _;exact hd
 obtain ⟨x,hx⟩:∃x:Nat,x=n.natAbs / Int.gcd n d:=⟨_,rfl⟩
 obtain ⟨y,hy⟩:∃y:Nat,y=d.natAbs / Int.gcd n d:=⟨_,rfl⟩
 have hxi:((n.natAbs:Nat):Int) / ((Int.gcd n d:Nat):Int)=(x:Int):=by rw[hx];simp
 have hyi:((d.natAbs:Nat):Int) / ((Int.gcd n d:Nat):Int)=(y:Int):=by rw[hy];simp
 have hxt:((n.natAbs:Nat):Int).tdiv ((Int.gcd n d:Nat):Int)=(x:Int):=by rw[hx];rfl
 have hyt:((d.natAbs:Nat):Int).tdiv ((Int.gcd n d:Nat):Int)=(y:Int):=by rw[hy];rfl
 have hxw:IntKind.u64.wrap (x:Int)=(x:Int):=by
  have:x<=n.natAbs:=by rw[hx];exact Nat.div_le_self _ _
  rw[GK];omega
 have hyw:IntKind.u64.wrap (y:Int)=(y:Int):=by
  have:y<=d.natAbs:=by rw[hy];exact Nat.div_le_self _ _
  rw[GK];omega
 have HMk:Hid (Gs n d=if Da < max (x:Int) (y:Int) then (IP,2) else (⟨if (decide (n < 0) !=decide (d < 0))=true then -(x:Int) else x,y⟩,0)):=yb (by unfold Gs;rw[yq hd,hx,hy])
 clear h1 h2 h3 h4 hd hgp hx hy
 generalize n.natAbs=m at*
 generalize d.natAbs=k at*
 generalize Int.gcd n d=g at*
 have hgn:¬ ((g:Int)=0):=by simpa using hg0
 have hgm:¬ (g=0):=by omega
 obtain ⟨z,hz⟩:∃z:Int,z=max (x:Int) (y:Int):=⟨_,rfl⟩
 have hzi:(if (x:Int) < (y:Int) then (y:Int) else (x:Int))=z:=by split<;>omega
 have hzj:max (x:Int) (y:Int)=z:=hz.symm
 have HZ:=yb hz
 clear hz
 by_cases hbig:Da < z
 ·have hdz:decide (1073741824 < z)=true:=by simpa[Da] using hbig
  have hm:Hid (Gs n d=(IP,2)):=yb (by rw[HMk.o,yD (by rw[<-HZ.o];exact hbig)])
  rw[hm.o]
  clear hbig HMk hm
  go_enter Tryz.func14,Tryz.ntmps14
  go_wp2_with (first|(go_at_call 28;with_reducible refine (HM.o _).mono ?_;rintro e w2 ⟨rfl,rfl⟩)|(go_at_call 28;with_reducible refine (HM2.o _).mono ?_;rintro e w2 ⟨rfl,rfl⟩)|(go_at_call 29;refine (HD.o _).mono ?_;rintro e w2 ⟨rfl,hw2⟩;have hr:w2.heap[w.heap.size]?=some (.cells #[.int .i64 0,.int .i64 0] 44 (0,0)):=(hw2.block _ (by simp)).trans (World.alloc_heap_new _ _);have HR:=yb hr;obtain ⟨c0,c1,f0,f1⟩:=Dv hr;have HB2:=yb (((yg _ w).alloc (yf _) (.cells #[.int .i64 0,.int .i64 0] 44)).trans (hw2.mono (by simp)));clear hw2 hr))
  go_region
  go_wp2
  exact A3 rfl rfl (Dk (Db HR.o)) qS rfl (by kernel_rfl) ⟨rfl,(A5 (A5 HB2.o (yf _) _) (yf _) _).drew⟩
 have hdz:decide (1073741824 < z)=false:=by simpa[Da] using hbig
 have hm:Hid (Gs n d=(⟨if (decide (n < 0) !=decide (d < 0))=true then -(x:Int) else x,y⟩,0)):=yb (by rw[HMk.o,yq (by rw[<-HZ.o];exact hbig)])
 have hxs:IntKind.i64.wrap (x:Int)=(x:Int):=by have:=HZ.o;unfold Da at hbig;exact KN _ (by omega) (by omega)
 have hys:IntKind.i64.wrap (y:Int)=(y:Int):=by have:=HZ.o;unfold Da at hbig;exact KN _ (by omega) (by omega)
 have hxn:IntKind.i64.wrap (-(x:Int))= -(x:Int):=by have:=HZ.o;unfold Da at hbig;exact KN _ (by omega) (by omega)
 rw[hm.o]
 clear hbig HMk hm
 have HNe:Hid (∀c d:Bool,(!c==d)=(c !=d)):=yb (by decide)
 cases hne:(decide (n < 0) !=decide (d < 0)) with
 |true=>
  have hnf:=(HNe.o (decide (n < 0)) (decide (d < 0))).trans hne
  go_enter Tryz.func14,Tryz.ntmps14
  go_wp2_with (first|(go_at_call 28;with_reducible refine (HM.o _).mono ?_;rintro e w2 ⟨rfl,rfl⟩)|(go_at_call 28;with_reducible refine (HM2.o _).mono ?_;rintro e w2 ⟨rfl,rfl⟩)|(go_at_call 29;refine (HD.o _).mono ?_;rintro e w2 ⟨rfl,hw2⟩;have hr:w2.heap[w.heap.size]?=some (.cells #[.int .i64 0,.int .i64 0] 44 (0,0)):=(hw2.block _ (by simp)).trans (World.alloc_heap_new _ _);have HR:=yb hr;obtain ⟨c0,c1,f0,f1⟩:=Dv hr;have HB2:=yb (((yg _ w).alloc (yf _) (.cells #[.int .i64 0,.int .i64 0] 44)).trans (hw2.mono (by simp)));clear hw2 hr))
  go_region
  go_wp2
  exact A3 rfl rfl (Dk (Db (Db (Dk (Db HR.o))))) qS rfl (by kernel_rfl) ⟨rfl,(A5 (A5 (A5 (A5 (A5 HB2.o (yf _) _) (yf _) _) (yf _) _) (yf _) _) (yf _) _).drew⟩
 |false=>
  have hnf:=(HNe.o (decide (n < 0)) (decide (d < 0))).trans hne
  go_enter Tryz.func14,Tryz.ntmps14
  go_wp2_with (first|(go_at_call 28;with_reducible refine (HM.o _).mono ?_;rintro e w2 ⟨rfl,rfl⟩)|(go_at_call 28;with_reducible refine (HM2.o _).mono ?_;rintro e w2 ⟨rfl,rfl⟩)|(go_at_call 29;refine (HD.o _).mono ?_;rintro e w2 ⟨rfl,hw2⟩;have hr:w2.heap[w.heap.size]?=some (.cells #[.int .i64 0,.int .i64 0] 44 (0,0)):=(hw2.block _ (by simp)).trans (World.alloc_heap_new _ _);have HR:=yb hr;obtain ⟨c0,c1,f0,f1⟩:=Dv hr;have HB2:=yb (((yg _ w).alloc (yf _) (.cells #[.int .i64 0,.int .i64 0] 44)).trans (hw2.mono (by simp)));clear hw2 hr))
  go_region
  go_wp2
  exact A3 rfl rfl (Dk (Db (Dk (Db HR.o)))) qS rfl (by kernel_rfl) ⟨rfl,(A5 (A5 (A5 (A5 HB2.o (yf _) _) (yf _) _) (yf _) _) (yf _) _).drew⟩
set_option linter.unusedSimpArgs false
theorem U8{a:Rt}(h:BD a=true):(a.n.natAbs<=1073741824∧a.d.natAbs<=1073741824):=by
 unfold BD at h
 simp only[yF,z7] at h
 unfold Da at h
 omega
theorem LD{x y:Int}(b:x.natAbs<=1073741824)(a:y.natAbs<=1073741824):(x*y).natAbs<=1152921504606846976:=by
 rw[Int.natAbs_mul]
 exact qn b a
theorem AL{x:Int}(h:x.natAbs<=4611686018427387904):wrap64 x=x:=by unfold wrap64;omega
def Rv(op:Int)(a b:Rt)(w:World)(e:Ending)(w':World):Prop:=e=.returned (.tuple #[.int .i64 (ER op a b).1,.int .i64 (ER op a b).2])∧Below w.heap.size w w'
theorem JY(a b:Rt)(i:BD a=true)(hb:BD b=true)(w:World):
  Calls Tryz.prog 101 #[a.v,b.v] w (Rv 3 a b w)∧Calls Tryz.prog 102 #[a.v,b.v] w (Rv 4 a b w)∧Calls Tryz.prog 30 #[a.v,b.v] w (Rv 5 a b w)∧Calls Tryz.prog 104 #[a.v,b.v] w (Rv 6 a b w):=by
 have h1:=U8 i
 have h2:=U8 hb
 obtain ⟨n,d⟩:=a
 obtain ⟨m,k⟩:=b
 unfold Rt.v
 dsimp only at h1 h2 ⊢
 have o:=LD h1.1 h2.2
 have t:=LD h2.1 h1.2
 have q:=LD h1.2 h2.2
 have y:=LD h1.1 h2.1
 have l:=LD h1.2 h2.1
 have s:=AL (x:=n*k) (by omega)
 have z:=AL (x:=m*d) (by omega)
 have h:=AL (x:=d*k) (by omega)
 have r:=AL (x:=n*m) (by omega)
 have p:=AL (x:=d*m) (by omega)
 have j:=AL (x:=n*k+m*d) (by omega)
 have u:=AL (x:=n*k - m*d) (by omega)
 clear h1 h2 o t q y l i hb
 have g:ER 3 ⟨n,d⟩ ⟨m,k⟩=(n*k+m*d,d*k):=by simp[ER]
 have e:ER 4 ⟨n,d⟩ ⟨m,k⟩=(n*k - m*d,d*k):=by simp[ER]
 have f:ER 5 ⟨n,d⟩ ⟨m,k⟩=(n*m,d*k):=by simp[ER]
 have c:ER 6 ⟨n,d⟩ ⟨m,k⟩=(n*k,d*m):=by simp[ER]
 refine ⟨?_,?_,?_,?_⟩
 ·clear e f c;go_enter Tryz.func101,Tryz.ntmps101
  go_wp2
  go_region
  go_wp2
  refine zv (results_tmp2 rfl _ _ _) rfl ⟨?_,(((yg _ _).alloc (yf _) _).alloc (by simp) _).drew⟩
  rw[g]
  show Ending.returned (.tuple #[iV (wrap64 (n*k+m*d)),iV (wrap64 (d*k))])=_
  rw[j,h]
 ·clear g f c;go_enter Tryz.func102,Tryz.ntmps102
  go_wp2
  go_region
  go_wp2
  refine zv (results_tmp2 rfl _ _ _) rfl ⟨?_,(((yg _ _).alloc (yf _) _).alloc (by simp) _).drew⟩
  rw[e]
  show Ending.returned (.tuple #[iV (wrap64 (n*k - m*d)),iV (wrap64 (d*k))])=_
  rw[u,h]
 ·clear g e c;go_enter Tryz.func30,Tryz.ntmps30
  go_wp2
  go_region
  go_wp2
  refine zv (results_tmp2 rfl _ _ _) rfl ⟨?_,(((yg _ _).alloc (yf _) _).alloc (by simp) _).drew⟩
  rw[f]
  show Ending.returned (.tuple #[iV (wrap64 (n*m)),iV (wrap64 (d*k))])=_
  rw[r,h]
 ·clear g e f;go_enter Tryz.func104,Tryz.ntmps104
  go_wp2
  go_region
  go_wp2
  refine zv (results_tmp2 rfl _ _ _) rfl ⟨?_,(((yg _ _).alloc (yf _) _).alloc (by simp) _).drew⟩
  rw[c]
  show Ending.returned (.tuple #[iV (wrap64 (n*k)),iV (wrap64 (d*m))])=_
  rw[s,p]
structure Vc (w:World) (f:Value) (a b:Rt) (W:World):Prop where
 below:Below w.heap.size w W
 fn:W.heap[w.heap.size]?=some (.cells #[f] 78 (0,0))
 a:W.heap[w.heap.size+1]?=some (.cells #[.int .i64 a.n,.int .i64 a.d] 44 (0,0))
 b:W.heap[w.heap.size+1+1]?=some (.cells #[.int .i64 b.n,.int .i64 b.d] 44 (0,0))
 r:W.heap[w.heap.size+1+1+1]?=some (.cells #[.int .i64 0,.int .i64 0] 44 (0,0))
theorem Vc.lt{w:World}{f:Value}{a b:Rt}{W:World}(h:Vc w f a b W):w.heap.size+3 < W.heap.size:=(yd.1 h.r).1
theorem Vc.up{w:World}{f:Value}{a b:Rt}{W W':World}(h:Vc w f a b W)(c:Below W.heap.size W W'):Vc w f a b W':=by
 have d:=h.lt
 exact ⟨h.below.trans (c.mono (by omega)),(c.block _ (by omega)).trans h.fn,(c.block _ (by omega)).trans h.a,(c.block _ (by omega)).trans h.b,(c.block _ (by omega)).trans h.r⟩
theorem U9(w:World)(f:Value)(a b:Rt):Vc w f a b ((((w.alloc (.cells #[f] 78)).alloc (.cells #[.int .i64 a.n,.int .i64 a.d] 44)).alloc (.cells #[.int .i64 b.n,.int .i64 b.d] 44)).alloc (.cells #[.int .i64 0,.int .i64 0] 44)):=by
 have h1:=World.alloc_heap_new w (.cells #[f] 78)
 have h2:=World.alloc_heap_new (w.alloc (.cells #[f] 78)) (.cells #[iV a.n,iV a.d] 44)
 have h3:=World.alloc_heap_new ((w.alloc (.cells #[f] 78)).alloc (.cells #[iV a.n,iV a.d] 44)) (.cells #[iV b.n,iV b.d] 44)
 have c:=World.alloc_heap_new (((w.alloc (.cells #[f] 78)).alloc (.cells #[iV a.n,iV a.d] 44)).alloc (.cells #[iV b.n,iV b.d] 44)) (.cells j5 44)
 simp only[yY] at h2 h3 c
 refine ⟨((((yg _ _).alloc (yf _) _).alloc (by simp) _).alloc (by simp<;>omega) _).alloc (by simp<;>omega) _,?_,?_,?_,c⟩
 ·exact (yA _ _ _ (by simp<;>omega)).trans ((yA _ _ _ (by simp<;>omega)).trans ((yA _ _ _ (by simp)).trans h1))
 ·exact (yA _ _ _ (by simp<;>omega)).trans ((yA _ _ _ (by simp)).trans h2)
 ·exact (yA _ _ _ (by simp)).trans h3
theorem MQ{W:World}{b:Nat}{x:Value}{t:TypeId}(h:W.heap[b]?=some (.cells #[x] t (0,0))):W.cell? ⟨b,0,none⟩=some x:=by simp[World.cell?,h]
theorem JZ(op:Int)(id:FuncId)(a b:Rt)(Z:∀args W,(callFunc id args).run Tryz.prog W=.ok (.enter id args) W)(R:BD a=true->BD b=true->∀W,Calls Tryz.prog id #[a.v,b.v] W (Rv op a b W))(L:BD a=true->BD b=true->(ER op a b).1.natAbs<=4611686018427387904∧(ER op a b).2.natAbs<=4611686018427387904)(w:World):
  Calls Tryz.prog 31 #[.agg #[.func (.func id) #[] #[]],a.v,b.v] w fun e w'=>e=.returned (.tuple #[(Qy op a b).1.v,.int .i64 (Qy op a b).2])∧Below w.heap.size w w':=by
 have z:Hid (∀W,Calls Tryz.prog 42 #[a.v] W fun e w'=>e=.returned (iV (PA (BD a)))∧Below W.heap.size W w'):=yb (KM a)
 have t:Hid (∀W,Calls Tryz.prog 42 #[b.v] W fun e w'=>e=.returned (iV (PA (BD b)))∧Below W.heap.size W w'):=yb (KM b)
 unfold Qy
 have Q:=yb R
 have T:=yb L
 clear R L
 generalize M:BD a=ca at*
 generalize O:BD b=cb at*
 clear M O
 obtain ⟨p,l⟩:=a
 obtain ⟨m,q⟩:=b
 unfold Rt.v at*
 dsimp only at*
 have d:=yb (U9 w (.func (.func id) #[] #[]) ⟨p,l⟩ ⟨m,q⟩)
 dsimp only at d
 go_enter Tryz.func31,Tryz.ntmps31
 refine Ae fun K S=>?_
 go_wp2
 refine S.o _ _ ?_
 clear S
 generalize V:(((w.alloc (.cells #[.func (.func id) #[] #[]] 78)).alloc (.cells #[iV p,iV l] 44)).alloc (.cells #[iV m,iV q] 44)).alloc (.cells j5 44)=W0 at*
 clear V
 obtain ⟨G,a1,u,n⟩:=Dv d.o.a
 obtain ⟨A,b1,f,h⟩:=Dv d.o.b
 obtain ⟨C,r1,j,k⟩:=Dv d.o.r
 have E:=MQ d.o.fn
 cases ca with
 |false=>
  have J:Hid (∀W,Calls Tryz.prog 42 #[.agg #[iV p,iV l]] W fun e w'=>e=.returned (iV 120)∧Below W.heap.size W w'):=z
  clear z t
  go_wp2_with (first|(go_at_call 42;with_reducible refine (J.o _).mono ?_;rintro e w2 ⟨rfl,i⟩;have c:=yb (d.o.up i);clear d i E C r1 j k G a1 u n A b1 f h;obtain ⟨C,r1,j,k⟩:=Dv c.o.r))
  exact A3 rfl rfl (Dk (Db c.o.r)) qS rfl (by kernel_rfl) ⟨rfl,A5 (A5 c.o.below (by omega) _) (by omega) _⟩
 |true=>
  have J:Hid (∀W,Calls Tryz.prog 42 #[.agg #[iV p,iV l]] W fun e w'=>e=.returned (iV 0)∧Below W.heap.size W w'):=z
  cases cb with
  |false=>
   have N:Hid (∀W,Calls Tryz.prog 42 #[.agg #[iV m,iV q]] W fun e w'=>e=.returned (iV 120)∧Below W.heap.size W w'):=t
   clear z t
   go_wp2_with (first|(go_at_call 42;with_reducible refine (J.o _).mono ?_;rintro e w2 ⟨rfl,i⟩;have c:=yb (d.o.up i);clear d i E C r1 j k G a1 u n A b1 f h;obtain ⟨A,b1,f,h⟩:=Dv c.o.b)|(go_at_call 42;with_reducible refine (N.o _).mono ?_;rintro e U ⟨rfl,s⟩;have g:=yb (c.o.up s);clear c s A b1 f h;obtain ⟨C,r1,j,k⟩:=Dv g.o.r))
   exact A3 rfl rfl (Dk (Db g.o.r)) qS rfl (by kernel_rfl) ⟨rfl,A5 (A5 g.o.below (by omega) _) (by omega) _⟩
  |true=>
   have N:Hid (∀W,Calls Tryz.prog 42 #[.agg #[iV m,iV q]] W fun e w'=>e=.returned (iV 0)∧Below W.heap.size W w'):=t
   clear z t
   have L:=T.o rfl rfl
   have P:Hid (∀W,Calls Tryz.prog 14 #[iV (ER op ⟨p,l⟩ ⟨m,q⟩).1,iV (ER op ⟨p,l⟩ ⟨m,q⟩).2] W fun e w'=>e=.returned (.tuple #[(Gs (ER op ⟨p,l⟩ ⟨m,q⟩).1 (ER op ⟨p,l⟩ ⟨m,q⟩).2).1.v,iV (Gs (ER op ⟨p,l⟩ ⟨m,q⟩).1 (ER op ⟨p,l⟩ ⟨m,q⟩).2).2])∧Below W.heap.size W w'):=yb (fun W=>Ru _ _ (by omega) (by omega) (by omega) (by omega) W)
   have I:=yb (Q.o rfl rfl)
   unfold Rv at I
   clear L T Q
   simp only[Bool.and_self,xm]
   generalize ER op ⟨p,l⟩ ⟨m,q⟩=X at*
   obtain ⟨x,y⟩:=X
   dsimp only at*
   generalize Gs x y=Y at*
   obtain ⟨⟨mn,md⟩,me⟩:=Y
   unfold Rt.v at*
   dsimp only at*
   go_wp2_with (first|(go_at_call 42;with_reducible refine (J.o _).mono ?_;rintro e w2 ⟨rfl,i⟩;have c:=yb (d.o.up i);clear d i E C r1 j k G a1 u n A b1 f h;obtain ⟨A,b1,f,h⟩:=Dv c.o.b)|(go_at_call 42;with_reducible refine (N.o _).mono ?_;rintro e U ⟨rfl,s⟩;have g:=yb (c.o.up s);clear c s A b1 f h;obtain ⟨G,a1,u,n⟩:=Dv g.o.a;obtain ⟨A,b1,f,h⟩:=Dv g.o.b;have E:=MQ g.o.fn)|fail)
   refine (I.o _).mono ?_
   rintro e w4 ⟨rfl,H⟩
   have D:=yb (g.o.up H)
   clear g H G a1 u n A b1 f h E
   go_wp2_with (first|(go_at_call 14;with_reducible refine (P.o _).mono ?_;rintro e w5 ⟨rfl,F⟩;have B:=yb (D.o.up F);clear D F;obtain ⟨C,r1,j,k⟩:=Dv B.o.r))
   exact A3 rfl rfl (Dk (Db B.o.r)) qS rfl (by kernel_rfl) ⟨rfl,A5 (A5 B.o.below (by omega) _) (by omega) _⟩
theorem Dh(w:World)(o1 o2 a:Obj):(((w.alloc o1).alloc o2).alloc a).heap[w.heap.size+1+1]?=some a:=by
 have h:=World.alloc_heap_new ((w.alloc o1).alloc o2) a
 simpa only[yY] using h
def UU(op:Int)(a b:Rt)(w:World)(e:Ending)(w':World):Prop:=e=.returned (.tuple #[(Qy op a b).1.v,.int .i64 (Qy op a b).2])∧Below w.heap.size w w'
theorem MS(a b:Rt)(w:World):
  Calls Tryz.prog 95 #[a.v,b.v] w (UU 3 a b w)∧Calls Tryz.prog 96 #[a.v,b.v] w (UU 4 a b w)∧Calls Tryz.prog 15 #[a.v,b.v] w (UU 5 a b w)∧Calls Tryz.prog 98 #[a.v,b.v] w (UU 6 a b w):=by
 have d:∀op,BD a=true->BD b=true->(ER op a b).1.natAbs<=4611686018427387904∧(ER op a b).2.natAbs<=4611686018427387904:=by
  intro op f hb
  have h1:=U8 f
  have h2:=U8 hb
  have C:=LD h1.1 h2.2
  have O:=LD h2.1 h1.2
  have J:=LD h1.2 h2.2
  have Q:=LD h1.1 h2.1
  have z:=LD h1.2 h2.1
  unfold ER
  split
  ·constructor<;>dsimp only<;>omega
  ·split
   ·constructor<;>dsimp only<;>omega
   ·split<;>constructor<;>dsimp only<;>omega
 have p:=fun W=>JZ 3 101 a b (fun _ _=>rfl) (fun f hb W=>(JY a b f hb W).1) (d 3) W
 have l:=fun W=>JZ 4 102 a b (fun _ _=>rfl) (fun f hb W=>(JY a b f hb W).2.1) (d 4) W
 have k:=fun W=>JZ 5 30 a b (fun _ _=>rfl) (fun f hb W=>(JY a b f hb W).2.2.1) (d 5) W
 have m:=fun W=>JZ 6 104 a b (fun _ _=>rfl) (fun f hb W=>(JY a b f hb W).2.2.2) (d 6) W
 unfold UU
 generalize Qy 3 a b=q at*
 generalize Qy 4 a b=s at*
 generalize Qy 5 a b=r at*
 generalize Qy 6 a b=t at*
 obtain ⟨⟨G,D⟩,M⟩:=q
 obtain ⟨⟨B,A⟩,L⟩:=s
 obtain ⟨⟨I,x⟩,N⟩:=r
 obtain ⟨⟨E,P⟩,K⟩:=t
 obtain ⟨F,u⟩:=a
 obtain ⟨y,H⟩:=b
 unfold Rt.v at*
 dsimp only at*
 clear d
 have p:=yb p
 have l:=yb l
 have k:=yb k
 have m:=yb m
 refine ⟨?_,?_,?_,?_⟩
 ·go_enter Tryz.func95,Tryz.ntmps95
  go_wp2_with (first|(go_at_call 31;with_reducible refine (p.o _).mono ?_;rintro e w2 ⟨rfl,c⟩;have hr:=(c.block (w.heap.size+1+1) (by simp)).trans (Dh _ _ _ _);have i:=yb hr;obtain ⟨n,r1,g,h⟩:=Dv hr;have j:=yb (((((yg w.heap.size w).alloc (yf _) _).alloc (by simp) _).alloc (by simp<;>omega) _).trans (c.mono (by simp<;>omega)));clear c hr))
  exact A3 rfl rfl (Dk (Db i.o)) qS rfl (by kernel_rfl) ⟨rfl,A5 (A5 j.o (by omega) _) (by omega) _⟩
 ·go_enter Tryz.func96,Tryz.ntmps96
  go_wp2_with (first|(go_at_call 31;with_reducible refine (l.o _).mono ?_;rintro e w2 ⟨rfl,c⟩;have hr:=(c.block (w.heap.size+1+1) (by simp)).trans (Dh _ _ _ _);have i:=yb hr;obtain ⟨n,r1,g,h⟩:=Dv hr;have j:=yb (((((yg w.heap.size w).alloc (yf _) _).alloc (by simp) _).alloc (by simp<;>omega) _).trans (c.mono (by simp<;>omega)));clear c hr))
  exact A3 rfl rfl (Dk (Db i.o)) qS rfl (by kernel_rfl) ⟨rfl,A5 (A5 j.o (by omega) _) (by omega) _⟩
 ·go_enter Tryz.func15,Tryz.ntmps15
  go_wp2_with (first|(go_at_call 31;with_reducible refine (k.o _).mono ?_;rintro e w2 ⟨rfl,c⟩;have hr:=(c.block (w.heap.size+1+1) (by simp)).trans (Dh _ _ _ _);have i:=yb hr;obtain ⟨n,r1,g,h⟩:=Dv hr;have j:=yb (((((yg w.heap.size w).alloc (yf _) _).alloc (by simp) _).alloc (by simp<;>omega) _).trans (c.mono (by simp<;>omega)));clear c hr))
  exact A3 rfl rfl (Dk (Db i.o)) qS rfl (by kernel_rfl) ⟨rfl,A5 (A5 j.o (by omega) _) (by omega) _⟩
 ·go_enter Tryz.func98,Tryz.ntmps98
  go_wp2_with (first|(go_at_call 31;with_reducible refine (m.o _).mono ?_;rintro e w2 ⟨rfl,c⟩;have hr:=(c.block (w.heap.size+1+1) (by simp)).trans (Dh _ _ _ _);have i:=yb hr;obtain ⟨n,r1,g,h⟩:=Dv hr;have j:=yb (((((yg w.heap.size w).alloc (yf _) _).alloc (by simp) _).alloc (by simp<;>omega) _).trans (c.mono (by simp<;>omega)));clear c hr))
  exact A3 rfl rfl (Dk (Db i.o)) qS rfl (by kernel_rfl) ⟨rfl,A5 (A5 j.o (by omega) _) (by omega) _⟩
set_option linter.unusedSimpArgs false
def Dm.row(d:Dm):LV:=[.int .i64 d.l,.int .i64 d.h,.int .i64 d.a]
def Dm.v(d:Dm):Value:=.agg #[.int .i64 d.l,.int .i64 d.h,.int .i64 d.a]
structure GU (w:World):Prop where
 size:6 < w.heap.size
 hours:w.rangeAt 0 0 (Dm.row ⟨0,1,0⟩)
 litres:w.rangeAt 1 0 (Dm.row ⟨1,0,0⟩)
 need:w.rangeAt 2 0 (Dm.row ⟨1,0, -1⟩)
 flow:w.rangeAt 3 0 (Dm.row ⟨1, -1,0⟩)
 none:w.rangeAt 4 0 (Dm.row O4)
 ares:w.rangeAt 5 0 (Dm.row ⟨0,0,1⟩)
theorem GU.up{w w':World}(h:GU w)(hb:Below w.heap.size w w'):GU w':=by
 have hs:=h.size
 exact ⟨yu hs hb.size,A0 h.hours (hb.block _ (by omega)),A0 h.litres (hb.block _ (by omega)),A0 h.need (hb.block _ (by omega)),A0 h.flow (hb.block _ (by omega)),A0 h.none (hb.block _ (by omega)),A0 h.ares (hb.block _ (by omega))⟩
theorem KO{w:World}{b o:Nat}{x y z:Value}(h:w.rangeAt b o [x,y,z]):w.cell? ⟨b,o,none⟩=some x∧w.cell? ⟨b,o+1,none⟩=some y∧w.cell? ⟨b,o+2,none⟩=some z:=
 ⟨h 0 _ rfl,h 1 _ rfl,h 2 _ rfl⟩
theorem GA{W:World}{b:Nat}{x y z:Value}{t:TypeId}(h:W.heap[b]?=some (.cells #[x,y,z] t (0,0))):W.cell? ⟨b,0,none⟩=some x∧W.cell? ⟨b,1,none⟩=some y∧W.cell? ⟨b,2,none⟩=some z∧W.frozen? ⟨b,0,none⟩=false∧W.frozen? ⟨b,1,none⟩=false∧W.frozen? ⟨b,2,none⟩=false:=by
 refine ⟨?_,?_,?_,?_,?_,?_⟩<;>simp[World.cell?,World.frozen?,h]
theorem Dl{W:World}{b:Nat}{x y z v:Value}{t:TypeId}(h:W.heap[b]?=some (.cells #[x,y,z] t (0,0))):(W.setCell ⟨b,0,none⟩ v).heap[b]?=some (.cells #[v,y,z] t (0,0)):=by
 simp[World.setCell,yL,h]
theorem Dn{W:World}{b:Nat}{x y z v:Value}{t:TypeId}(h:W.heap[b]?=some (.cells #[x,y,z] t (0,0))):(W.setCell ⟨b,1,none⟩ v).heap[b]?=some (.cells #[x,v,z] t (0,0)):=by
 simp[World.setCell,yL,h]
theorem Dp{W:World}{b:Nat}{x y z v:Value}{t:TypeId}(h:W.heap[b]?=some (.cells #[x,y,z] t (0,0))):(W.setCell ⟨b,2,none⟩ v).heap[b]?=some (.cells #[x,y,v] t (0,0)):=by
 simp[World.setCell,yL,h]
theorem T4(u:Int)(w:World)(l:GU w):Calls Tryz.prog 76 #[.int .i64 u] w fun e w'=>e=.returned (.tuple #[(F8 u).v,.int .i64 (Ez u)])∧Below w.heap.size w w':=by
 have a:=l.up ((yg w.heap.size w).alloc (yf _) (.cells j6 68))
 have b:=yb (World.alloc_heap_new w (.cells j6 68))
 have d:Hid (Below w.heap.size w (w.alloc (.cells j6 68))):=yb ((yg _ _).alloc (yf _) _)
 go_enter Tryz.func76,Tryz.ntmps76
 refine Ae fun K n=>?_
 go_wp2
 refine n.o _ _ ?_
 clear n l
 generalize w.alloc (.cells j6 68)=W at*
 have p:w.heap.size < W.heap.size:=(yd.1 b.o).1
 obtain ⟨s,a1,r⟩:=KO a.hours
 obtain ⟨B,b1,b2⟩:=KO a.litres
 obtain ⟨c0,c1,c2⟩:=KO a.none
 obtain ⟨D,A,y⟩:=KO a.ares
 obtain ⟨E,r1,r2,t,x,z⟩:=GA b.o
 clear a p
 have t1:¬ u=1->(u==1)=false:=fun h=>by simpa using h
 have t2:¬ u=2->(u==2)=false:=fun h=>by simpa using h
 have t3:¬ u=3->(u==3)=false:=fun h=>by simpa using h
 have t4:¬ u=4->(u==4)=false:=fun h=>by simpa using h
 have t5:¬ u=5->(u==5)=false:=fun h=>by simpa using h
 have c:=yb (And.intro t1 (And.intro t2 (And.intro t3 (And.intro t4 t5))))
 clear t1 t2 t3 t4 t5
 by_cases h1:u=1
 ·subst h1
  clear c
  go_wp2
  exact A3 rfl rfl (Dp (Dn (Dl b.o))) qX rfl (by kernel_rfl) ⟨rfl,A5 (A5 (A5 d.o (by omega) _) (by omega) _) (by omega) _⟩
 have i:=c.o.1 h1
 by_cases h2:u=2
 ·subst h2
  clear h1 i
  go_wp2
  exact A3 rfl rfl (Dp (Dn (Dl b.o))) qX rfl (by kernel_rfl) ⟨rfl,A5 (A5 (A5 d.o (by omega) _) (by omega) _) (by omega) _⟩
 have j:=c.o.2.1 h2
 by_cases h3:u=3
 ·subst h3
  clear h1 h2 i j
  go_wp2
  exact A3 rfl rfl (Dp (Dn (Dl b.o))) qX rfl (by kernel_rfl) ⟨rfl,A5 (A5 (A5 d.o (by omega) _) (by omega) _) (by omega) _⟩
 have m:=c.o.2.2.1 h3
 by_cases f:u=4
 ·subst f
  clear h1 h2 h3 i j m
  go_wp2
  exact A3 rfl rfl (Dp (Dn (Dl b.o))) qX rfl (by kernel_rfl) ⟨rfl,A5 (A5 (A5 d.o (by omega) _) (by omega) _) (by omega) _⟩
 have q:=c.o.2.2.2.1 f
 by_cases g:u=5
 ·subst g
  clear h1 h2 h3 f i j m q
  go_wp2
  exact A3 rfl rfl (Dp (Dn (Dl b.o))) qX rfl (by kernel_rfl) ⟨rfl,A5 (A5 (A5 d.o (by omega) _) (by omega) _) (by omega) _⟩
 have C:=c.o.2.2.2.2 g
 have k:Hid (F8 u=O4∧Ez u=1):=yb (by unfold F8 Ez;simp[h1,h2,h3,f,g])
 rw[k.o.1,k.o.2]
 clear h1 h2 h3 f g c k
 go_wp2
 exact A3 rfl rfl (Dp (Dn (Dl b.o))) qX rfl (by kernel_rfl) ⟨rfl,A5 (A5 (A5 d.o (by omega) _) (by omega) _) (by omega) _⟩
theorem O8(a b c d e f:Int)(w:World):(Op.equalIn 10000 68 (.agg #[.int .i64 a,.int .i64 b,.int .i64 c]) (.agg #[.int .i64 d,.int .i64 e,.int .i64 f])).run Tryz.prog w=.ok (decide (a=d)&&(decide (b=e)&&decide (c=f))) w:=by
 have l:Tryz.prog.underlying 68=some (.array 3 3):=qX
 have hi:Tryz.prog.underlying 3=some (.int .i64):=qK
 have hs:∀w,(sizeOf 3).run Tryz.prog w=.ok 1 w:=fun w=>by kernel_rfl
 have g:∀w,(isAgg 3).run Tryz.prog w=.ok false w:=fun w=>by
  unfold isAgg
  rw[xq,xY hi w];rfl
 have h:∀x y w,(Op.equalIn 9999 3 (iV x) (iV y)).run Tryz.prog w=.ok (x==y) w:=fun x y w=>run_equalIn_int w 9998 _ _ _ x y hi
 rw[Op.equalIn]
 rw[xq,xY l,xX]
 simp only[xq,hs,xX,Std.Legacy.Range.forIn_eq_forIn_range',Std.Legacy.Range.size,List.range']
 simp only[List.forIn_cons,List.forIn_nil,part,xq,g,xX]
 by_cases h1:a=d
 ·by_cases h2:b=e
  ·by_cases h3:c=f
   ·subst h1 h2 h3;simp[h,g,xq,Result.andThen]
   ·have i:(c==f)=false:=by simpa using h3
    subst h1 h2;simp[h,g,xq,Result.andThen,h3,i]
  ·have j:(b==e)=false:=by simpa using h2
   subst h1;simp[h,g,xq,Result.andThen,h2,j]
 ·have k:(a==d)=false:=by simpa using h1
  simp[h,Result.andThen,h1,k]
theorem KP(a b:Dm)(w:World):Calls Tryz.prog 94 #[a.v,b.v] w fun e w'=>e=.returned (.tuple #[a.v,.bool (decide (a=b))])∧Below w.heap.size w w':=by
 obtain ⟨c,d,f⟩:=a
 obtain ⟨bl,g,i⟩:=b
 unfold Dm.v
 dsimp only
 have j:=O8 c d f bl g i
 have k:Tryz.prog.eqGuardType Tryz.prog.depth 68=false:=by kernel_rfl
 go_enter Tryz.func94,Tryz.ntmps94
 go_wp2
 go_region
 go_wp2
 have h:decide ((⟨c,d,f⟩:Dm)=⟨bl,g,i⟩)=(decide (c=bl)&&(decide (d=g)&&decide (f=i))):=by
  rw[xS];simp[Dm.mk.injEq]
 rw[h]
 exact A3 rfl rfl (Dh w _ _ (.cells #[iV c,iV d,iV f] 68)) qX rfl (by kernel_rfl) ⟨rfl,((((yg _ _).alloc (yf _) _).alloc (by simp) _).alloc (by simp<;>omega) _).drew⟩
theorem Ua(s:Int)(w:World):Calls Tryz.prog 97 #[.int .i64 s] w fun e w'=>e=.returned (.func (.func 103) #[] #[.pointer (some ⟨w.heap.size,0,none⟩)])∧w'=w.alloc (.cells #[.int .i64 s] 3):=by
 have a:∀(fn:Fn) (first cap:Array Value) (w:World),(Instr.makeFunc fn first cap).run Tryz.prog w=.ok (.func fn first cap) w:=fun _ _ _ _=>rfl
 go_enter Tryz.func97,Tryz.ntmps97
 go_wp2
 go_ret
 exact ⟨rfl,rfl⟩
structure LF (w:World) (B:Nat) (s l h a:Int) (b:Dm) (W:World):Prop where
 below:Below w.heap.size w W
 s:W.cell? ⟨B,0,none⟩=some (.int .i64 s)
 a:W.heap[w.heap.size]?=some (.cells #[.int .i64 l,.int .i64 h,.int .i64 a] 68 (0,0))
 b:W.heap[w.heap.size+1]?=some (.cells #[.int .i64 b.l,.int .i64 b.h,.int .i64 b.a] 68 (0,0))
 r:W.heap[w.heap.size+1+1]?=some (.cells #[.int .i64 0,.int .i64 0,.int .i64 0] 68 (0,0))
theorem Hj(w:World)(o1 o2 a:Obj):(((w.alloc o1).alloc o2).alloc a).heap[w.heap.size]?=some o1:=
 (yA _ _ _ (by simp<;>omega)).trans ((yA _ _ _ (by simp)).trans (World.alloc_heap_new w o1))
theorem Gn(w:World)(o1 o2 a:Obj):(((w.alloc o1).alloc o2).alloc a).heap[w.heap.size+1]?=some o2:=by
 have h:=World.alloc_heap_new (w.alloc o1) o2
 simp only[yY] at h
 exact (yA _ _ _ (by simp)).trans h
theorem G2(w:World)(o1 o2 a:Obj):Below w.heap.size w (((w.alloc o1).alloc o2).alloc a):=(((yg _ _).alloc (yf _) _).alloc (by simp) _).alloc (by simp<;>omega) _
theorem LF.drew{w:World}{B:Nat}{s l h a:Int}{b:Dm}{W:World}(k:LF w B s l h a b W):LF w B s l h a b W.drew:=⟨k.below.drew,k.s,k.a,k.b,k.r⟩
theorem LF.set{w:World}{B:Nat}{s l h a l' e d:Int}{b:Dm}{W W':World}(k:LF w B s l h a b W)(c:Dj W W' w.heap.size [.int .i64 l',.int .i64 e,.int .i64 d] 68)(f:B < w.heap.size):LF w B s l' e d b W':=by
 refine ⟨c.below k.below (yf _),?_,c.row,(c.block _ (by omega)).trans k.b,(c.block _ (by omega)).trans k.r⟩
 have:=k.s
 unfold World.cell? at this ⊢
 rw[c.block B (by omega)];exact this
theorem PB{W:World}{b:Nat}{x y z:Value}{t:TypeId}(h:W.heap[b]?=some (.cells #[x,y,z] t (0,0)))(v:Value):Dj W (W.setCell ⟨b,0,none⟩ v) b [v,y,z] t∧Dj W (W.setCell ⟨b,1,none⟩ v) b [x,v,z] t∧Dj W (W.setCell ⟨b,2,none⟩ v) b [x,y,v] t:=
 ⟨⟨rfl,rfl,rfl,by simp,Dl h,fun k a=>xE W ⟨b,0,none⟩ v k a⟩,⟨rfl,rfl,rfl,by simp,Dn h,fun k a=>xE W ⟨b,1,none⟩ v k a⟩,⟨rfl,rfl,rfl,by simp,Dp h,fun k a=>xE W ⟨b,2,none⟩ v k a⟩⟩
theorem J6{n:Int}(h:Sh n=true): -4<=n∧n<=4:=by unfold Sh at h;simpa using h
theorem O9(op:Int)(s:Int)(hs:(op=5∧s=1)∨(op=6∧s= -1))(a b:Dm)(Z:Gt a=true)(hb:Gt b=true)(B:Nat)(w:World)(hB:w.cell? ⟨B,0,none⟩=some (.int .i64 s)):
  Calls Tryz.prog 103 #[a.v,b.v,.pointer (some ⟨B,0,none⟩)] w fun e w'=>e=.returned (.tuple #[(Qz op a b).1.v,.bool (Qz op a b).2])∧Below w.heap.size w w':=by
 have V:Hid (Qz op a b=if Gt (Rs s a b)=true then (Rs s a b,true) else (O4,false)):=yb (by
  unfold Qz
  rcases hs with ⟨rfl,rfl⟩|⟨rfl,rfl⟩
  ·rw[yq (by decide)];rfl
  ·rw[yq (by decide)];rfl)
 have L:Hid (B < w.heap.size):=yb (yO _ _ hB)
 generalize Qz op a b=res at V ⊢
 obtain ⟨Q,N,J⟩:=a
 obtain ⟨bl,u,t⟩:=b
 unfold Gt at Z hb
 simp only[yF] at Z hb
 have g1:=J6 Z.1
 have g2:=J6 Z.2.1
 have g3:=J6 Z.2.2
 have g4:=J6 hb.1
 have g5:=J6 hb.2.1
 have g6:=J6 hb.2.2
 have M:s=1∨s= -1:=by omega
 have q1:wrap64 (s*bl)=s*bl∧wrap64 (Q+s*bl)=Q+s*bl:=by rcases M with rfl|rfl<;>exact ⟨AL (by omega),AL (by omega)⟩
 have q2:wrap64 (s*u)=s*u∧wrap64 (N+s*u)=N+s*u:=by rcases M with rfl|rfl<;>exact ⟨AL (by omega),AL (by omega)⟩
 have q3:wrap64 (s*t)=s*t∧wrap64 (J+s*t)=J+s*t:=by rcases M with rfl|rfl<;>exact ⟨AL (by omega),AL (by omega)⟩
 obtain ⟨h,X⟩:∃x,x=Q+s*bl:=⟨_,rfl⟩
 obtain ⟨j,R⟩:∃x,x=N+s*u:=⟨_,rfl⟩
 obtain ⟨m,T⟩:∃x,x=J+s*t:=⟨_,rfl⟩
 have O:Rs s ⟨Q,N,J⟩ ⟨bl,u,t⟩=⟨h,j,m⟩:=by unfold Rs;rw[X,R,T]
 have q:Hid (res=if Gt ⟨h,j,m⟩=true then (⟨h,j,m⟩,true) else (O4,false)):=yb (by rw[V.o,O])
 obtain ⟨y1,U⟩:∃y,y=s*bl:=⟨_,rfl⟩
 obtain ⟨y2,Y⟩:∃y,y=s*u:=⟨_,rfl⟩
 obtain ⟨y3,S⟩:∃y,y=s*t:=⟨_,rfl⟩
 have p1:wrap64 (s*bl)=y1:=by rw[U];exact q1.1
 have p2:wrap64 (s*u)=y2:=by rw[Y];exact q2.1
 have p3:wrap64 (s*t)=y3:=by rw[S];exact q3.1
 have r1:wrap64 (Q+y1)=h:=by rw[X,U];exact q1.2
 have r2:wrap64 (N+y2)=j:=by rw[R,Y];exact q2.2
 have r3:wrap64 (J+y3)=m:=by rw[T,S];exact q3.2
 clear hs M V O Z hb g1 g2 g3 g4 g5 g6 q1 q2 q3 X R T U Y S
 unfold Dm.v
 dsimp only
 have c:Hid (LF w B s Q N J ⟨bl,u,t⟩ (((w.alloc (.cells #[iV Q,iV N,iV J] 68)).alloc (.cells #[iV bl,iV u,iV t] 68)).alloc (.cells j6 68))):=yb ⟨G2 _ _ _ _,((G2 w _ _ _).cell (p:=(aV B 0)) L.o).trans hB,Hj _ _ _ _,Gn _ _ _ _,Dh _ _ _ _⟩
 clear hB
 go_enter Tryz.func103,Tryz.ntmps103
 refine Ae fun K hK=>?_
 go_wp2
 refine hK.o _ _ ?_
 clear hK
 generalize ((w.alloc (.cells #[iV Q,iV N,iV J] 68)).alloc (.cells #[iV bl,iV u,iV t] 68)).alloc (.cells j6 68)=W at c ⊢
 go_wp2
 refine wp_loop_rounds 4 ?_
 rw[qc]
 obtain ⟨E,a1,D,i,l,k⟩:=GA c.o.a
 obtain ⟨b0,b1,b2,H,F,I⟩:=GA c.o.b
 have s0:=c.o.s
 have n:Hid (LF w B s h N J ⟨bl,u,t⟩ (W.setCell (aV w.heap.size 0) (iV h)).drew):=yb (c.o.set (PB c.o.a (iV h)).1 L.o).drew
 go_wp2
 go_region
 clear E a1 D i l k b0 b1 b2 H F I s0 c
 generalize (W.setCell (aV w.heap.size 0) (iV h)).drew=W at n ⊢
 have c:=n
 clear n
 obtain ⟨E,a1,D,i,l,k⟩:=GA c.o.a
 obtain ⟨c0,c1,c2,A,C,z⟩:=GA c.o.r
 by_cases d:h < -4
 ·have G:decide (h < -4)=true:=by simpa using d
  have g:Hid (¬ Gt ⟨h,j,m⟩=true):=yb (by unfold Gt Sh;simp;omega)
  clear d
  go_wp2
  refine A3 rfl rfl (Dp (Dn (Dl c.o.r))) qX rfl (by kernel_rfl) ⟨?_,A5 (A5 (A5 c.o.below (by omega) _) (by omega) _) (by omega) _⟩
  rw[q.o,yq g.o];rfl
 by_cases f:4 < h
 ·have G:decide (h < -4)=false:=by simpa using d
  have P:decide (4 < h)=true:=by simpa using f
  have g:Hid (¬ Gt ⟨h,j,m⟩=true):=yb (by unfold Gt Sh;simp;omega)
  clear d f
  go_wp2
  refine A3 rfl rfl (Dp (Dn (Dl c.o.r))) qX rfl (by kernel_rfl) ⟨?_,A5 (A5 (A5 c.o.below (by omega) _) (by omega) _) (by omega) _⟩
  rw[q.o,yq g.o];rfl
 have a7:Hid (-4<=h∧h<=4):=yb (by omega)
 have G:decide (h < -4)=false:=by simpa using d
 have P:decide (4 < h)=false:=by simpa using f
 clear d f
 go_wp2
 clear G P E a1 D i l k c0 c1 c2 A C z
 rw[qc]
 obtain ⟨E,a1,D,i,l,k⟩:=GA c.o.a
 obtain ⟨b0,b1,b2,H,F,I⟩:=GA c.o.b
 have s0:=c.o.s
 have n:Hid (LF w B s h j J ⟨bl,u,t⟩ (W.setCell (aV w.heap.size 1) (iV j)).drew):=yb (c.o.set (PB c.o.a (iV j)).2.1 L.o).drew
 go_wp2
 go_region
 clear E a1 D i l k b0 b1 b2 H F I s0 c
 generalize (W.setCell (aV w.heap.size 1) (iV j)).drew=W at n ⊢
 have c:=n
 clear n
 obtain ⟨E,a1,D,i,l,k⟩:=GA c.o.a
 obtain ⟨c0,c1,c2,A,C,z⟩:=GA c.o.r
 by_cases d:j < -4
 ·have G:decide (j < -4)=true:=by simpa using d
  have g:Hid (¬ Gt ⟨h,j,m⟩=true):=yb (by unfold Gt Sh;simp;omega)
  clear d
  go_wp2
  refine A3 rfl rfl (Dp (Dn (Dl c.o.r))) qX rfl (by kernel_rfl) ⟨?_,A5 (A5 (A5 c.o.below (by omega) _) (by omega) _) (by omega) _⟩
  rw[q.o,yq g.o];rfl
 by_cases f:4 < j
 ·have G:decide (j < -4)=false:=by simpa using d
  have P:decide (4 < j)=true:=by simpa using f
  have g:Hid (¬ Gt ⟨h,j,m⟩=true):=yb (by unfold Gt Sh;simp;omega)
  clear d f
  go_wp2
  refine A3 rfl rfl (Dp (Dn (Dl c.o.r))) qX rfl (by kernel_rfl) ⟨?_,A5 (A5 (A5 c.o.below (by omega) _) (by omega) _) (by omega) _⟩
  rw[q.o,yq g.o];rfl
 have a8:Hid (-4<=j∧j<=4):=yb (by omega)
 have G:decide (j < -4)=false:=by simpa using d
 have P:decide (4 < j)=false:=by simpa using f
 clear d f
 go_wp2
 clear G P E a1 D i l k c0 c1 c2 A C z
 rw[qc]
 obtain ⟨E,a1,D,i,l,k⟩:=GA c.o.a
 obtain ⟨b0,b1,b2,H,F,I⟩:=GA c.o.b
 have s0:=c.o.s
 have n:Hid (LF w B s h j m ⟨bl,u,t⟩ (W.setCell (aV w.heap.size 2) (iV m)).drew):=yb (c.o.set (PB c.o.a (iV m)).2.2 L.o).drew
 go_wp2
 go_region
 clear E a1 D i l k b0 b1 b2 H F I s0 c
 generalize (W.setCell (aV w.heap.size 2) (iV m)).drew=W at n ⊢
 have c:=n
 clear n
 obtain ⟨E,a1,D,i,l,k⟩:=GA c.o.a
 obtain ⟨c0,c1,c2,A,C,z⟩:=GA c.o.r
 by_cases d:m < -4
 ·have G:decide (m < -4)=true:=by simpa using d
  have g:Hid (¬ Gt ⟨h,j,m⟩=true):=yb (by unfold Gt Sh;simp;omega)
  clear d
  go_wp2
  refine A3 rfl rfl (Dp (Dn (Dl c.o.r))) qX rfl (by kernel_rfl) ⟨?_,A5 (A5 (A5 c.o.below (by omega) _) (by omega) _) (by omega) _⟩
  rw[q.o,yq g.o];rfl
 by_cases f:4 < m
 ·have G:decide (m < -4)=false:=by simpa using d
  have P:decide (4 < m)=true:=by simpa using f
  have g:Hid (¬ Gt ⟨h,j,m⟩=true):=yb (by unfold Gt Sh;simp;omega)
  clear d f
  go_wp2
  refine A3 rfl rfl (Dp (Dn (Dl c.o.r))) qX rfl (by kernel_rfl) ⟨?_,A5 (A5 (A5 c.o.below (by omega) _) (by omega) _) (by omega) _⟩
  rw[q.o,yq g.o];rfl
 have a6:Hid (-4<=m∧m<=4):=yb (by omega)
 have G:decide (m < -4)=false:=by simpa using d
 have P:decide (4 < m)=false:=by simpa using f
 clear d f
 go_wp2
 clear G P E a1 D i l k c0 c1 c2 A C z
 rw[qc]
 obtain ⟨E,a1,D,i,l,k⟩:=GA c.o.a
 obtain ⟨c0,c1,c2,A,C,z⟩:=GA c.o.r
 go_wp2
 have g:Hid (Gt ⟨h,j,m⟩=true):=yb (by unfold Gt Sh;simp[a7.o,a8.o,a6.o])
 refine A3 rfl rfl (Dp (Dn (Dl c.o.r))) qX rfl (by kernel_rfl) ⟨?_,A5 (A5 (A5 c.o.below (by omega) _) (by omega) _) (by omega) _⟩
 rw[q.o,yD g.o];rfl
set_option linter.unusedSimpArgs false
def Mg(id:FuncId):Value:=.func (.func id) #[] #[]
def JJ(id:FuncId)(B:Nat):Value:=.func (.func id) #[] #[.pointer (some ⟨B,0,none⟩)]
def MT(B C:Nat)(k:Int):Value:=if k=3 then Mg 94 else if k=4 then Mg 94 else if k=5 then JJ 103 B else JJ 103 C
def Oa(k:Int):Value:=if k=3 then Mg 95 else if k=4 then Mg 96 else if k=5 then Mg 15 else Mg 98
def DW(B C:Nat):LV:=[.nilFunc,.nilFunc,.nilFunc,.nilFunc,.nilFunc,.nilFunc,Mg 94,Mg 95,Mg 94,Mg 96,JJ 103 B,Mg 15,JJ 103 C,Mg 98]
theorem En(w:World):Calls Tryz.prog 77 #[] w fun e w'=>∃B C,e=.returned (.agg (DW B C).toArray)∧Below w.heap.size w w'∧w'.cell? ⟨B,0,none⟩=some (.int .i64 1)∧w'.cell? ⟨C,0,none⟩=some (.int .i64 (-1)):=by
 go_enter Tryz.func77,Tryz.ntmps77
 go_wp2_with (first|(go_at_call 97;refine (Ua _ _).mono ?_;rintro e w2 ⟨rfl,rfl⟩))
 refine Bv (c:=DW (w.heap.size+1) (w.heap.size+1+1)) rfl rfl (Hj _ _ _ _) Tryz.underlying168 rfl (by kernel_rfl) ⟨_,_,rfl,G2 _ _ _ _,MQ (Gn _ _ _ _),MQ (Dh _ _ _ _)⟩
end Go.Proofs.YtjofgpfocadomaaGreatDoor
