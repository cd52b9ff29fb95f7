/- Parts of the proof, in short words: Rp Rr Gh Gc Gd Ge Gf Gg Gi -/
import Derived.Test.YtjofgpfocadomaaGreatDoorUi0
import Derived.Test.YtjofgpfocadomaaGreatDoorUi7
import Derived.Deep.RegionHeld2
import Derived.Deep.Cut
import Derived.StillTailTactics
import Derived.BigRegion
import Derived.Laws.StructEq
set_option maxRecDepth 100000
set_option maxHeartbeats 16000000
set_option linter.unusedSimpArgs false
namespace Go.Proofs.YtjofgpfocadomaaGreatDoor
open Go.RowKit
theorem Vc{w:World}{a:ByteArray}(b:a.size<=maxLen):B8 (w.alloc (.cells #[.string a] 9)) ⟨some ⟨w.heap.size,0,none⟩,1,1⟩ 1 0 [a]:=by
 refine ⟨rfl,by simp,fun i hi=>?_⟩
 obtain rfl:i=0:=by simpa using hi
 have h:=World.alloc_heap_new w (.cells #[.string a] 9)
 refine ⟨w.heap.size,0,[.string a],rfl,by simp,rfl,BU ?_,by simp[Value.oneCell'],rfl,b⟩
 simp only[World.cell?,h]
 rfl
theorem H8{f:FuncId}{args:Array Value}{w:World}{b:Bool}(h:Calls Tryz.prog f args w (D9 w b))(hb:b=true):Calls Tryz.prog f args w fun e w'=>e=.returned (.tuple #[])∧Below w.heap.size w w':=
 h.mono fun e w' a=>by rw[hb] at a;exact ⟨a.2,a.1⟩
theorem JL{f:FuncId}{args:Array Value}{w:World}{b:Bool}(h:Calls Tryz.prog f args w (D9 w b))(hb:b=false):Calls Tryz.prog f args w fun e w'=>e=.panicked (EE 170)∧Below w.heap.size w w':=
 h.mono fun e w' a=>by rw[hb] at a;exact ⟨a.2,a.1⟩
theorem Th{f:FuncId}{args:Array Value}{w:World}{b c:Bool}(h:Calls Tryz.prog f args w (MO w b))(hb:b=c):Calls Tryz.prog f args w (MO w c):=hb▸h
theorem VM{Q:QT}{w V:World}{x:Av}{L:Bt}{cs:LV}{N:NP}(hQ:KM Q w x)(Y:Gu w x L cs N V)(hg:GV V)(hd:∀e∈Ax x,Ar e.1<=1000000)
 (u0 u4 u5 u6 u7 u8 u9 di dy ee e3 fh fs dh ef fj f0 el g0 df f1 e7 fm ed ez f3 fu fz dt dg fa ek fc g2 dl fp ea ep e1 du eb em dw ej dk fb dz dd f7 ff ft dr e6 fo e0 dj fv e9 en f6 f8 dx et e5 fw fq dm ew e4 fd ei eo dn f9 fg e2 eg eh fi fe f4 dp fx eu ec ey dv f2 f5 fl fk eq es fy e8 dq ex d3 ax bj co af bu ce cj cd bp bz ba am cm b4 aw c9 ct bx au da b0 d8 d0 bd d1 bg ap ch cc b7 bn aq cq ae dc bq db cr cu ci cz ck d4 c8 cg d9 d2 cf bi cw d7 be bh b9 b5 an bo bb aj cn cy cp cx cv cl ay ak d5 av ah bv ao bt:Value):
  FE 32 Tryz.prog (H4 2 (Tryz.f32.body.getD .skip)) Q {tmps:=#[u0,.pointer (some ⟨w.heap.size,0,none⟩),.pointer (some ⟨w.heap.size+1,0,none⟩),.pointer (some ⟨w.heap.size+2,0,none⟩),u4,u5,u6,u7,u8,u9,di,dy,ee,e3,fh,fs,dh,ef,fj,f0,el,g0,df,f1,e7,fm,ed,ez,f3,fu,fz,dt,dg,fa,ek,fc,g2,dl,fp,ea,ep,e1,du,eb,em,dw,ej,dk,fb,dz,dd,f7,ff,ft,dr,e6,fo,e0,dj,fv,e9,en,f6,f8,dx,et,e5,fw,fq,dm,ew,e4,fd,ei,eo,dn,f9,fg,e2,eg,eh,fi,fe,f4,dp,fx,eu,ec,ey,dv,f2,f5,fl,fk,eq,es,fy,e8,dq,ex,d3,ax,bj,co,af,bu,ce,cj,cd,bp,bz,ba,am,cm,b4,aw,c9,ct,bx,au,da,b0,d8,d0,bd,d1,bg,ap,ch,cc,b7,bn,aq,cq,ae,dc,bq,db,cr,cu,ci,cz,ck,d4,c8,cg,d9,d2,cf,bi,cw,d7,be,bh,b9,b5,an,bo,bb,aj,cn,cy,cp,cx,cv,cl,ay,ak,d5,av,ah,bv,ao,bt],defers:=[Jc w.heap.size]} V:=by
 have G:=yb (Y.at.nms fun _ h=>h)
 have f:=yb Y.cells
 have X:Hid (w.heap.size < V.heap.size):=yb (by have:=Y.size;omega)
 have HQ:=yb hQ;have HP:=yb Y;have F:=yb hg
 have HS:Hid (BH (fun b=>b < V.heap.size) V {L with s:=w.heap.size} cs x):=yb (by have h:=Y.at;exact ⟨h.name,h.cells,h.lets,h.crops,h.reaches,h.farms,h.rots,h.rights,h.duties⟩)
 have ab:=yb Y.range
 have HD:=yb hd
 have ad:Hid (x.name.size<=maxLen):=yb Y.src.name
 have T:Hid (∀(c:Int) tm wr,LM w.heap.size tm->Below V.heap.size V wr->AE x=c->c≠0->Q (.panic (EE c)) {tmps:=tm,defers:=[Jc w.heap.size]} wr):=yb (fun c tm wr hv hb y hn=>by
  subst y
  exact hQ.fail tm wr hv (Y.up (hb.mono Y.size)).amid hn)
 clear hQ Y hg hd
 unfold Jc
 cases hf:BD x with
 |false=>
  have HF:=yb hf
  clear hf
  refine A9 (A4 ?_)
  go_wp2_with (first|(go_at_call 44;refine (Th (JE HS.o ab.o (fun _ h=>h) X.o HD.o) HF.o).mono ?_;rintro e w2 ⟨H,rfl⟩;have U:=yb H;clear H))
  exact T.o 2 _ _ ⟨rfl,rfl⟩ U.o (by unfold AE;rw[HF.o];rfl) (by decide)
 |true=>
  have HF:=yb hf
  clear hf
  have d:Hid (∀tm wr,LM w.heap.size tm->Below V.heap.size V wr->D5 x=false->Q (.panic (EE 170)) {tmps:=tm,defers:=[Jc w.heap.size]} wr):=yb (fun tm wr hv hb hn=>T.o 170 tm wr hv hb (by unfold AE;rw[HF.o,hn];rfl) (by decide))
  refine A9 (A4 ?_)
  go_wp2_with (first|(go_at_call 44;refine (Th (JE HS.o ab.o (fun _ h=>h) X.o HD.o) HF.o).mono ?_;rintro e w2 ⟨H,rfl⟩;have U:=yb H;clear H))
  have y:w2.cell? (aV w.heap.size 0)=some (.string x.name):=(U.o.cell (p:=(aV w.heap.size 0)) X.o).trans f.o.name
  have ar:Hid (B8 (w2.alloc (.cells #[.string x.name] 9)) ⟨some (aV w2.heap.size 0),1,1⟩ 1 0 [x.name]):=yb (Vc ad.o)
  have R:Hid (Below V.heap.size V (w2.alloc (.cells #[.string x.name] 9))):=yb (U.o.alloc U.o.size _)
  have ag:Hid (GV (w2.alloc (.cells #[.string x.name] 9))):=yb (F.o.below R.o F.o.1)
  cases Z:At x.name with
  |false=>
   have D:=yb Z
   clear Z
   refine A9 (A4 ?_)
   go_wp2_with (first|(go_at_call 45;refine (JL (M5 (h:=⟨some (aV w2.heap.size 0),1,1⟩) ar.o ag.o) (by simp[D.o])).mono ?_;rintro e w3 ⟨rfl,S⟩;have q:=yb (R.o.trans (S.mono R.o.size));clear S))
   exact d.o _ _ ⟨rfl,rfl⟩ q.o (by unfold D5;rw[D.o];simp)
  |true=>
   have D:=yb Z
   clear Z
   refine A9 (A4 ?_)
   go_wp2_with (first|(go_at_call 45;refine (H8 (M5 (h:=⟨some (aV w2.heap.size 0),1,1⟩) ar.o ag.o) (by simp[D.o])).mono ?_;rintro e w3 ⟨rfl,S⟩;have q:=yb (R.o.trans (S.mono R.o.size));clear S))
   clear y
   have y:w3.cell? (aV w.heap.size 19)=some (.slice L.lets.a L.lets.n L.lets.c):=(q.o.cell (p:=(aV w.heap.size 19)) X.o).trans f.o.lets
   have a6:=yb (G.o.lets.up q.o)
   have b8:Hid (GV w3):=yb (F.o.below q.o F.o.1)
   cases g:(x.lets.map (·.name)).all At with
   |false=>
    have v:=yb g
    clear g
    refine A9 (A4 ?_)
    go_wp2_with (first|(go_at_call 47;refine (JL (M3 a6.o b8.o) v.o).mono ?_;rintro e w4 ⟨rfl,W⟩;have i:=yb (q.o.trans (W.mono q.o.size));clear W))
    exact d.o _ _ ⟨rfl,rfl⟩ i.o (by unfold D5;rw[v.o];simp)
   |true=>
    have v:=yb g
    clear g
    refine A9 (A4 ?_)
    go_wp2_with (first|(go_at_call 47;refine (H8 (M3 a6.o b8.o) v.o).mono ?_;rintro e w4 ⟨rfl,W⟩;have i:=yb (q.o.trans (W.mono q.o.size));clear W))
    clear y
    have y:w4.cell? (aV w.heap.size 20)=some (.slice L.crops.a L.crops.n L.crops.c):=(i.o.cell (p:=(aV w.heap.size 20)) X.o).trans f.o.crops
    have a7:=yb (G.o.crops.up i.o)
    have az:Hid (GV w4):=yb (F.o.below i.o F.o.1)
    cases g:(x.crops.map (·.name)).all At with
    |false=>
     have A:=yb g
     clear g
     refine A9 (A4 ?_)
     go_wp2_with (first|(go_at_call 49;refine (JL (Kp a7.o az.o) A.o).mono ?_;rintro e w5 ⟨rfl,O⟩;have m:=yb (i.o.trans (O.mono i.o.size));clear O))
     exact d.o _ _ ⟨rfl,rfl⟩ m.o (by unfold D5;rw[A.o];simp)
    |true=>
     have A:=yb g
     clear g
     refine A9 (A4 ?_)
     go_wp2_with (first|(go_at_call 49;refine (H8 (Kp a7.o az.o) A.o).mono ?_;rintro e w5 ⟨rfl,O⟩;have m:=yb (i.o.trans (O.mono i.o.size));clear O))
     clear y
     have y:w5.cell? (aV w.heap.size 21)=some (.slice L.reaches.a L.reaches.n L.reaches.c):=(m.o.cell (p:=(aV w.heap.size 21)) X.o).trans f.o.reaches
     have a2:=yb (G.o.reaches.up m.o)
     have bk:Hid (GV w5):=yb (F.o.below m.o F.o.1)
     cases g:(x.reaches.map (·.name)).all At with
     |false=>
      have B:=yb g
      clear g
      refine A9 (A4 ?_)
      go_wp2_with (first|(go_at_call 51;refine (JL (Jz a2.o bk.o) B.o).mono ?_;rintro e w6 ⟨rfl,P⟩;have l:=yb (m.o.trans (P.mono m.o.size));clear P))
      exact d.o _ _ ⟨rfl,rfl⟩ l.o (by unfold D5;rw[B.o];simp)
     |true=>
      have B:=yb g
      clear g
      refine A9 (A4 ?_)
      go_wp2_with (first|(go_at_call 51;refine (H8 (Jz a2.o bk.o) B.o).mono ?_;rintro e w6 ⟨rfl,P⟩;have l:=yb (m.o.trans (P.mono m.o.size));clear P))
      clear y
      have y:w6.cell? (aV w.heap.size 22)=some (.slice L.farms.a L.farms.n L.farms.c):=(l.o.cell (p:=(aV w.heap.size 22)) X.o).trans f.o.farms
      have a0:=yb (G.o.farms.up l.o)
      have ai:Hid (GV w6):=yb (F.o.below l.o F.o.1)
      cases g:(x.farms.map (·.name)).all At with
      |false=>
       have C:=yb g
       clear g
       refine A9 (A4 ?_)
       go_wp2_with (first|(go_at_call 53;refine (JL (Kq a0.o ai.o) C.o).mono ?_;rintro e w7 ⟨rfl,K⟩;have j:=yb (l.o.trans (K.mono l.o.size));clear K))
       exact d.o _ _ ⟨rfl,rfl⟩ j.o (by unfold D5;rw[C.o];simp)
      |true=>
       have C:=yb g
       clear g
       refine A9 (A4 ?_)
       go_wp2_with (first|(go_at_call 53;refine (H8 (Kq a0.o ai.o) C.o).mono ?_;rintro e w7 ⟨rfl,K⟩;have j:=yb (l.o.trans (K.mono l.o.size));clear K))
       clear y
       have y:w7.cell? (aV w.heap.size 23)=some (.slice L.rots.a L.rots.n L.rots.c):=(j.o.cell (p:=(aV w.heap.size 23)) X.o).trans f.o.rots
       have a8:=yb (G.o.rots.up j.o)
       have d6:Hid (GV w7):=yb (F.o.below j.o F.o.1)
       cases g:(x.rots.map (·.name)).all At with
       |false=>
        have z:=yb g
        clear g
        refine A9 (A4 ?_)
        go_wp2_with (first|(go_at_call 55;refine (JL (M4 a8.o d6.o) z.o).mono ?_;rintro e w8 ⟨rfl,M⟩;have r:=yb (j.o.trans (M.mono j.o.size));clear M))
        exact d.o _ _ ⟨rfl,rfl⟩ r.o (by unfold D5;rw[z.o];simp)
       |true=>
        have z:=yb g
        clear g
        refine A9 (A4 ?_)
        go_wp2_with (first|(go_at_call 55;refine (H8 (M4 a8.o d6.o) z.o).mono ?_;rintro e w8 ⟨rfl,M⟩;have r:=yb (j.o.trans (M.mono j.o.size));clear M))
        clear y
        have y:w8.cell? (aV w.heap.size 24)=some (.slice L.rights.a L.rights.n L.rights.c):=(r.o.cell (p:=(aV w.heap.size 24)) X.o).trans f.o.rights
        have aa:=yb (G.o.rights.up r.o)
        have bw:Hid (GV w8):=yb (F.o.below r.o F.o.1)
        cases g:(x.rights.map (·.name)).all At with
        |false=>
         have E:=yb g
         clear g
         refine A9 (A4 ?_)
         go_wp2_with (first|(go_at_call 57;refine (JL (JA aa.o bw.o) E.o).mono ?_;rintro e w9 ⟨rfl,I⟩;have k:=yb (r.o.trans (I.mono r.o.size));clear I))
         exact d.o _ _ ⟨rfl,rfl⟩ k.o (by unfold D5;rw[E.o];simp)
        |true=>
         have E:=yb g
         clear g
         refine A9 (A4 ?_)
         go_wp2_with (first|(go_at_call 57;refine (H8 (JA aa.o bw.o) E.o).mono ?_;rintro e w9 ⟨rfl,I⟩;have k:=yb (r.o.trans (I.mono r.o.size));clear I))
         clear y
         have y:w9.cell? (aV w.heap.size 25)=some (.slice L.duties.a L.duties.n L.duties.c):=(k.o.cell (p:=(aV w.heap.size 25)) X.o).trans f.o.duties
         have ac:=yb (G.o.duties.up k.o)
         have bm:Hid (GV w9):=yb (F.o.below k.o F.o.1)
         cases g:(x.duties.map (·.name)).all At with
         |false=>
          have u:=yb g
          clear g
          refine A9 (A4 ?_)
          go_wp2_with (first|(go_at_call 59;refine (JL (Kr ac.o bm.o) u.o).mono ?_;rintro e de ⟨rfl,t⟩;have J:=yb (k.o.trans (t.mono k.o.size));clear t))
          exact d.o _ _ ⟨rfl,rfl⟩ J.o (by unfold D5;rw[u.o];simp)
         |true=>
          have u:=yb g
          clear g
          refine A9 (A4 ?_)
          go_wp2_with (first|(go_at_call 59;refine (H8 (Kr ac.o bm.o) u.o).mono ?_;rintro e de ⟨rfl,t⟩;have J:=yb (k.o.trans (t.mono k.o.size));clear t))
          clear y
          have hn:D5 x=true:=by
           unfold D5
           rw[D.o,v.o,A.o,B.o,C.o,z.o,E.o,u.o]
           rfl
          exact VL HQ.o (HP.o.up (J.o.mono HP.o.size)) HF.o (by unfold AE;rw[HF.o,hn];rfl) _ _ _ _ _ _ _ _ _ _ _ _ _ _ _ _ _ _ _ _ _ _ _ _ _ _ _ _ _ _ _ _ _ _ _ _ _ _ _ _ _ _ _ _ _ _ _ _ _ _ _ _ _ _ _ _ _ _ _ _ _ _ _ _ _ _ _ _ _ _ _ _ _ _ _ _ _ _ _ _ _ _ _ _ _ _ _ _ _ _ _ _ _ _ _ _ _ _ _ _ _ _ _ _ _ _ _ _ _ _ _ _ _ _ _ _ _ _ _ _ _ _ _ _ _ _ _ _ _ _ _ _ _ _ _ _ _ _ _ _ _ _ _ _ _ _ _ _ _ _ _ _ _ _ _ _ _ _ _ _ _ _ _ _ _ _ _ _ _ _ _
def Wn(w:World)(cs:LV):World:=((w.alloc (.cells cs.toArray 35)).alloc (.cells Da.toArray 35)).alloc (.cells #[.int .i64 0] 40)
theorem Ul{w:World}{x:Av}{L:Bt}{cs:LV}{N:NP}(h:BH N w L cs x)(hN:∀b,N b->b < w.heap.size)(a:MS x):Gu w x L cs N (Wn w cs):=by
 unfold Wn
 refine ⟨⟨(((yg _ _).alloc (yf _) _).alloc (by simp) _).alloc (by simp;omega) _,⟨Da.toArray,rfl,?_⟩,⟨iV 0,?_⟩⟩,?_,h,hN,a⟩
 ·rw[yD _ _ _ (by simp)]
  have:=World.alloc_heap_new (w.alloc (.cells cs.toArray 35)) (.cells Da.toArray 35)
  rwa [z8] at this
 ·have:=World.alloc_heap_new ((w.alloc (.cells cs.toArray 35)).alloc (.cells Da.toArray 35)) (.cells jg 40)
  rwa [z8,z8] at this
 ·rw[yD _ _ _ (by simp;omega),yD _ _ _ (by simp)]
  exact World.alloc_heap_new _ _
theorem Om{w:World}{x:Av}{L:Bt}{cs:LV}{N:NP}(h:BH N w L cs x)(hN:∀b,N b->b < w.heap.size)(a:MS x)(f:GV w)(hd:∀e∈Ax x,Ar e.1<=1000000):
  Calls Tryz.prog 32 #[.agg cs.toArray] w (IK w x):=by
 have m:∀(fn:Fn) (first cap:Array Value) (w:World),(Instr.makeFunc fn first cap).run Tryz.prog w=.ok (.func fn first cap) w:=fun _ _ _ _=>rfl
 have d:=yb (Ul h hN a)
 have j:Hid (GV (Wn w cs)):=yb (f.below d.o.amid.below f.1)
 have r:=yb hd
 obtain ⟨c0,c1,c2,rfl,i,g1,g⟩:=h.cells
 obtain ⟨t,u,rfl,k⟩:=i.cells
 obtain ⟨a1,s,rfl,q⟩:=g1.cells
 obtain ⟨y,z,rfl,l⟩:=g.cells
 clear h hN a f hd i g1 g k q l
 unfold Au.v at*
 simp only[yP,yS] at d j ⊢
 refine Ba (n:=10) Tryz.func32 rfl ?_
 have c:=Ta w x
 generalize bodyPostM Fence.wide 10 Tryz.prog Tryz.f32 (IK w x)=Q at c ⊢
 have p:=yb c
 clear c
 simp only[Tryz.ntmps32,yq,yx,yH,Nat.reduceAdd,Nat.reduceSub,zy,zA,zQ,zJ,yS,yP]
 iterate 2
  refine A9 (A4 ?_)
  go_wp2
 exact VM p.o d.o j.o r.o _ _ _ _ _ _ _ _ _ _ _ _ _ _ _ _ _ _ _ _ _ _ _ _ _ _ _ _ _ _ _ _ _ _ _ _ _ _ _ _ _ _ _ _ _ _ _ _ _ _ _ _ _ _ _ _ _ _ _ _ _ _ _ _ _ _ _ _ _ _ _ _ _ _ _ _ _ _ _ _ _ _ _ _ _ _ _ _ _ _ _ _ _ _ _ _ _ _ _ _ _ _ _ _ _ _ _ _ _ _ _ _ _ _ _ _ _ _ _ _ _ _ _ _ _ _ _ _ _ _ _ _ _ _ _ _ _ _ _ _ _ _ _ _ _ _ _ _ _ _ _ _ _ _ _ _ _ _ _ _ _ _ _ _ _ _ _ _ _ _ _
theorem LP{fn:Func}{t u:Tmp}{ty:TypeId}{tmps:Array Value}{P:Program}{w:World}{p:Addr}{v:Value}(h:fn.results=#[.cell t ty,.tmp u])(a:tmps.getD t undef=.pointer (some p))(b:(loadVar ty p).run P w=.ok v w):(results fn tmps).run P w=.ok (.tuple #[v,tmps.getD u undef]) w:=by
 rw[yE] at a
 simp[results,h,a,asAddr,b]
def GF(F:NP)(W:World)(b:Nat):Prop:=¬ F b∧b < W.heap.size
def CO(F:NP)(W W':World):Prop:=W.heap.size<=W'.heap.size∧∀b,b < W.heap.size->¬ F b->W'.heap[b]?=W.heap[b]?
theorem CO.refl(F:NP)(W:World):CO F W W:=⟨yf _,fun _ _ _=>rfl⟩
theorem CO.trans{F:NP}{a b c:World}(h:CO F a b)(k:CO F b c):CO F a c:=⟨yu h.1 k.1,fun i hi d=>(k.2 i (yv hi h.1) d).trans (h.2 i hi d)⟩
theorem CO.below{F:NP}{W W':World}(h:Below W.heap.size W W'):CO F W W':=⟨h.size,fun b hb _=>h.block b hb⟩
theorem CO.wide{F F':NP}{W W':World}(h:CO F W W')(c:∀b,b < W.heap.size->F b->F' b):CO F' W W':=⟨h.1,fun b hb a=>h.2 b hb (fun k=>a (c b hb k))⟩
theorem GF.up{F F':NP}{W W':World}(hs:W.heap.size<=W'.heap.size)(a:∀b,F' b->F b∨W.heap.size<=b){b:Nat}(h:GF F W b):GF F' W' b:=
 ⟨fun k=>(a b k).elim h.1 (fun hb=>absurd h.2 (Nat.not_lt.2 hb)),yv h.2 hs⟩
theorem AG.flux{F F':NP}{W W':World}{e:Ex}{cs:LV}(h:AG (GF F W) W e cs)(a:CO F W W')(c:∀b,F' b->F b∨W.heap.size<=b):AG (GF F' W') W' e cs:=
 h.same (fun _ hb=>hb.up a.1 c) (fun b hb=>a.2 b hb.2 hb.1)
theorem AG.flux'{F:NP}{W W':World}{e:Ex}{cs:LV}(h:AG (GF F W) W e cs)(a:CO F W W'):AG (GF F W') W' e cs:=h.flux a (fun _ k=>.inl k)
structure DS (W W':World) (b:Nat) (c:List Value) (t:TypeId):Prop where
 os:W'.os=W.os
 tape:W'.tape=W.tape
 output:W'.output=W.output
 size:W'.heap.size=W.heap.size
 row:W'.heap[b]?=some (.cells c.toArray t (0,0))
 block:∀k,k≠b->W'.heap[k]?=W.heap[k]?
theorem DS.below{W W':World}{b:Nat}{c:LV}{t:TypeId}(h:DS W W' b c t){B:Nat}{a:World}(d:Below B a W)(hb:B<=b):Below B a W':=
 d.trans ⟨h.os,h.tape,h.output,by rw[h.size];exact yf _,fun k e=>h.block k (by omega)⟩
theorem DS.flux{W W':World}{b:Nat}{c:LV}{t:TypeId}(h:DS W W' b c t){F:NP}(d:F b):CO F W W':=⟨by rw[h.size];exact yf _,fun k _ a=>h.block k (fun e=>a (e▸d))⟩
theorem AD{W:World}{b:Nat}{c:LV}{t:TypeId}{fr:Nat × Nat}(h:W.heap[b]?=some (.cells c.toArray t fr)):W.rangeAt b 0 c:=fun j v a=>by
 simp only[World.cell?,h,yy];simpa using a
theorem Jf{W:World}{b o n:Nat}{c:LV}{t:TypeId}(h:W.heap[b]?=some (.cells c.toArray t (0,0)))(a:o+n<=c.length):W.there b o n:=fun j d=>by
 constructor
 ·simp only[World.cell?,h]
  simp;omega
 ·simp[World.frozen?,h]
theorem AR(b:Nat)(t:TypeId):∀(e:LV) (o:Nat) (w:World) (p m q:LV),w.heap[b]?=some (.cells (p++(m++q)).toArray t (0,0))->p.length=o->m.length=e.length->DS w (w.setCells b o e) b (p++(e++q)) t
 |[],o,w,p,m,q,h,c,hm=>by
  obtain rfl:m=[]:=zl.1 hm
  exact ⟨rfl,rfl,rfl,rfl,h,fun _ _=>rfl⟩
 |v::r,o,w,p,[],q,h,c,hm=>by simp at hm
 |v::r,o,w,p,x::m,q,h,c,hm=>by
  rw[World.setCells]
  have a:DS w (w.setCell ⟨b,o,none⟩ v) b ((p++[v])++(m++q)) t:=by
   refine ⟨rfl,rfl,rfl,by simp[World.setCell],?_,fun k d=>xH w (aV b o) v k d⟩
   simp only[World.setCell,yN,h,zD]
   simp only[xB,za]
   congr 1
   subst c
   simp
  have hr:=AR b t r (o+1) (w.setCell (aV b o) v) (p++[v]) m q a.row (by simp[c]) (by simpa using hm)
  refine ⟨hr.os.trans a.os,hr.tape.trans a.tape,hr.output.trans a.output,hr.size.trans a.size,?_,fun k d=>(hr.block k d).trans (a.block k d)⟩
  have:=hr.row
  simpa using this
theorem JW{ops:Array Oper}{rest:List Oper}{op:Oper}{a:Act}{w:World}{Q:QT}(d:op.guard=none)(ty:TypeId)(x y:Operand)(j:op.op=.store ty x y)
 (b o:Nat)(i:a.eval x=.pointer (some ⟨b,o,none⟩))(c:LV)(e:a.eval y=.agg c.toArray){p m q:LV}{t:TypeId}(hb:w.heap[b]?=some (.cells (p++(m++q)).toArray t (0,0)))(f:p.length=o)(g:m.length=c.length)
 (hi:(Tryz.prog.info? ty).map (·.size)=some c.length)(h1:∀v∈c,v.oneCell'=true)
 (h:∀W',DS w W' b (p++(c++q)) t->wpList Tryz.prog ops Q rest (a.put op.dst undef) W'):wpList Tryz.prog ops Q (op::rest) a w:=by
 refine wpList_store_mid d ty x y j b o c.toArray i e (Jf hb (by simp;omega)) (by rw[yq];exact hi) (yB h1) ?_
 exact h _ (AR b t c o w p m q hb f g)
theorem A3{fn:Func}{t u:Tmp}{ty:TypeId}{R:Ending->World->Prop}{tm:Array Value}{W:World}{b:Nat}{c:LV}{d:TypeDesc}{a:TypeId}(h:fn.results=#[.cell t ty,.tmp u])(g:tm.getD t undef=.pointer (some ⟨b,0,none⟩))(hr:W.heap[b]?=some (.cells c.toArray a (0,0)))
 (e:Tryz.prog.underlying ty=some d)(hd:d.isRow=true)(hi:(Tryz.prog.info? ty).map (·.size)=some c.length)(f:R (.returned (.tuple #[.agg c.toArray,tm.getD u undef])) W):bodyPost Tryz.prog fn R .ret {tmps:=tm,defers:=[]} W:=
 zw (LP h g (run_loadVar_mid _ b 0 ty c d (AD hr) e hd hi)) rfl f
theorem Bg{fn:Func}{t:Tmp}{ty:TypeId}{R:Ending->World->Prop}{tm:Array Value}{W:World}{b:Nat}{c:LV}{d:TypeDesc}{a:TypeId}(h:fn.results=#[.cell t ty])(e:tm.getD t undef=.pointer (some ⟨b,0,none⟩))(hr:W.heap[b]?=some (.cells c.toArray a (0,0)))
 (f:Tryz.prog.underlying ty=some d)(hd:d.isRow=true)(hi:(Tryz.prog.info? ty).map (·.size)=some c.length)(g:R (.returned (.agg c.toArray)) W):bodyPost Tryz.prog fn R .ret {tmps:=tm,defers:=[]} W:=by
 refine zw ?_ rfl g
 have h2:(loadVar ty (aV b 0)).run Tryz.prog W=.ok (.agg c.toArray) W:=run_loadVar_mid _ b 0 ty c d (AD hr) f hd hi
 rw[yE] at e
 simp[results,h,e,asAddr,h2]
theorem Eu{ty:TypeId}{w:World}{p:Addr}{v:Value}{d:TypeDesc}(b:Tryz.prog.underlying ty=some d)(hd:d.isRow=false)(c:w.cell? p=some v):(loadVar ty p).run Tryz.prog w=.ok v w:=by
 have a:(isAgg ty).run Tryz.prog w=.ok false w:=by
  unfold isAgg
  rw[xt,qb b w]
  cases d<;>simp_all[TypeDesc.isRow]
 simp[loadVar,xt,a,c]
theorem FN{fn:Func}{t:Tmp}{ty:TypeId}{tmps:Array Value}{P:Program}{w:World}{p:Addr}{v:Value}(h:fn.results=#[.cell t ty])(a:tmps.getD t undef=.pointer (some p))(b:(loadVar ty p).run P w=.ok v w):(results fn tmps).run P w=.ok v w:=by
 rw[yE] at a
 simp[results,h,a,asAddr,b]
theorem Ae{P:Program}{x y:Code}{Q:QT}{a:Act}{w:World}(h:∀K:Act->World->Prop,Hid (∀a w,Code.wp P y Q a w->K a w)->Code.wp P x (Exit.then K Q) a w):Code.wp P (x.seq y) Q a w:=wp_seq (h _ (yb fun _ _ h=>h))
end Go.Proofs.YtjofgpfocadomaaGreatDoor
namespace Go.Proofs.YtjofgpfocadomaaGreatDoor
open Go.RowKit
set_option linter.unusedSimpArgs false
attribute [local go_sem] Oper.semAt_some
def Tj(r:Nat):Array Value:=#[.int .u64 (r:Int)]
theorem Ou{a b:Nat}(c:a≠0)(d:a % max b 1=0):Ef a b=[a,b]:=by
 rw[Ef,yt c]
 by_cases hb:b=0
 ·rw[dif_pos hb,hb]
 ·rw[dif_neg hb,yw]
  rwa [Nat.max_eq_left (by omega)] at d
theorem Mr{a b:Nat}(d:a≠0)(c:a % max b 1≠0):Ef a b=a::Ef b (a % max b 1)∧a % max b 1 < b:=by
 by_cases hb:b=0
 ·rw[hb] at c;simp at c;omega
 ·have e:max b 1=b:=Nat.max_eq_left (by omega)
  rw[e] at c ⊢
  refine ⟨?_,Nat.mod_lt _ (by omega)⟩
  rw[Ef,yt d,dif_neg hb,yt c]
def LD(W:World)(B a:Nat):Prop:=W.heap[B]?=some (.cells #[.int .u64 (a:Int)] 73 (0,0))
theorem LD.cell{W:World}{B a:Nat}(h:LD W B a):W.cell? ⟨B,0,none⟩=some (.int .u64 (a:Int)):=by
 unfold LD at h;simp[World.cell?,h]
theorem LD.free{W:World}{B a:Nat}(h:LD W B a):W.frozen? ⟨B,0,none⟩=false:=by
 unfold LD at h;simp[World.frozen?,h]
theorem AZ{W:World}{B:Nat}{u v:Value}{t:TypeId}(h:W.heap[B]?=some (.cells #[u] t (0,0))):(W.setCell ⟨B,0,none⟩ v).heap[B]?=some (.cells #[v] t (0,0)):=by
 simp[World.setCell,yN,h]
theorem Ad(W:World){B c:Nat}(v:Value)(h:c≠B):(W.setCell ⟨B,0,none⟩ v).heap[c]?=W.heap[c]?:=by
 have:¬ B=c:=fun e=>h e.symm
 simp[World.setCell,yN,this]
theorem LD.same{O:NP}{W W':World}{B a:Nat}(h:LD W B a)(hs:AL O W W')(hb:O B):LD W' B a:=(hs.2 B hb).trans h
def VN(xs:List Nat)(d e:Nat)(J:Nat->NP->World->Prop)(f:World)(k a b:Nat)(W:World):Prop:=
 xs.drop k=Ef a b∧k<=xs.length∧J k (fun c=>c=d∨c=e) W∧f.heap.size<=W.heap.size∧LD W d a∧LD W e b∧(a:Int) < 18446744073709551616∧(b:Int) < 18446744073709551616
theorem Tk(n:Nat)(hn:1<=n)(f d a b:Nat)(Z:f≠d)(R:(a:Int) < 18446744073709551616)(S:(b:Int) < 18446744073709551616)(w0:World)(u:LD w0 f a)(hb:LD w0 d b):
  Vy Fence.wide n Tryz.prog 78 #[.pointer (some ⟨f,0,none⟩),.pointer (some ⟨d,0,none⟩)] (fun c=>c=f∨c=d) w0 (fun _=>True) ((Ef a b).map Tj) none:=by
 intro l J Jx Jp W hJ P _ ap am _ i V D h0
 obtain ⟨xs,E⟩:∃xs,xs=Ef a b:=⟨_,rfl⟩
 have HR:=yb i
 have ae:=yb hJ
 have ar:=yb P
 have H0:Hid (VN xs f d J W 0 a b W):=yb ⟨by rw[E];rfl,yK _,h0,yf _,u.same D (.inl rfl),hb.same D (.inr rfl),R,S⟩
 have HK:=yb V
 rw[<-E] at HR ⊢
 simp only[yX] at*
 clear i hJ P h0 u hb V D R S E
 refine z6.2 ?_
 go_enter Tryz.func78,Tryz.ntmps78
 go_wp2
 go_loopw [] (fun wr=>∃k a b:Nat,Hid (VN xs f d J W k a b wr)) (fun wr=>match wr.cell? (aV d 0) with|some v=>(intOf v).toNat|none=>0)
 case atStart=>exact ⟨0,a,b,H0⟩
 case round=>
  obtain ⟨k,a,b,g⟩:=hrel
  have ca:=g.o.2.2.2.2.1.cell
  have cb:=g.o.2.2.2.2.2.1.cell
  by_cases u:a=0
  ·subst u
   go_wp2
   have K:k=xs.length:=by
    have h:=g.o.1
    rw[Ef,yw rfl] at h
    have:=List.drop_eq_nil_iff.1 h
    have:=g.o.2.1
    omega
   refine bodyPost_end (zq rfl _ _ _) rfl (.inl ⟨⟨_,rfl⟩,.inl ⟨trivial,(fun c=>c=f∨c=d),?_⟩⟩)
   have h2:=g.o.2.2.1
   rwa [K] at h2
  ·have ao:((a:Int) !=0)=true:=by simpa using u
   have hdr:=g.o.1
   have K:k < xs.length:=by
    have:=g.o.2.1
    have h3:xs.drop k≠ []:=by rw[hdr];exact QR u
    have:¬ xs.length<=k:=fun h=>h3 (List.drop_eq_nil_iff.2 h)
    omega
   have j:(xs.map Tj)[k]'(by simpa using K)=#[.int .u64 (a:Int)]:=by
    have Q:=xg K
    have e2:xs[k]=a:=by
     rw[hdr] at Q
     by_cases x:a % max b 1=0
     ·rw[Ou u x] at Q;exact (xb Q).1.symm
     ·rw[(Mr u x).1] at Q;exact (xb Q).1.symm
    rw[zG,e2];rfl
   obtain ⟨ah,A,q,B,F,p⟩:=HR.o k K (fun c=>c=f∨c=d) wr g.o.2.2.1 g.o.2.2.2.1 (fun c t=>⟨.inl t,by have:=HK.o c t;have:=g.o.2.2.2.1;omega⟩)
   rw[j] at F
   have a8:=yb p
   clear p j hdr
   go_upto_region 0 with fail
   refine (qc (n:=n)).1 ?_
   gi_wp2
   refine a8.o.mono ?_
   rintro e w (⟨rfl,Y,hs⟩|⟨rfl,U,hs⟩|⟨ch,rfl,hp,hs⟩)
   rotate_left
   ·have af:=yb U
    clear U hs F
    gi_wp2
    go_wp2
    exact bodyPost_end (zq rfl _ _ _) rfl (.inl ⟨⟨_,rfl⟩,.inr ⟨_,af.o⟩⟩)
   ·exact ⟨rfl,.inr ⟨ch,rfl,_,hp⟩⟩
   clear F ca cb
   have a7:=yb Y
   have ag:=yb hs
   have HA:=yb (g.o.2.2.2.2.1.same hs (.inl rfl))
   have HB:=yb (g.o.2.2.2.2.2.1.same hs (.inr rfl))
   have ca:=HA.o.cell
   have cb:=HB.o.cell
   have fa:=HA.o.free
   have fb:=HB.o.free
   clear Y hs
   gi_wp2
   go_wp2
   have aj:(if (b:Int) < 1 then (1:Int) else b)=((max b 1:Nat):Int):=by split<;>omega
   obtain ⟨m,x⟩:∃m,m=max b 1:=⟨_,rfl⟩
   have au:((m:Int)==0)=false:=by simp;omega
   rw[<-x] at aj
   have aq:max (b:Int) 1=(m:Int):=by omega
   have s:∀(c:Nat) (o:Obj),(((w.setCell (aV f 0) (.int .u64 (b:Int))).setCell (aV d 0) (.int .u64 ((a:Int) % (m:Int)))).heap[c]?=some o->(((w.setCell (aV f 0) (.int .u64 (b:Int))).setCell (aV d 0) (.int .u64 ((a:Int) % (m:Int)))).drew).heap[c]?=some o):=fun _ _ h=>h
   have y:Hid (LD (((w.setCell (aV f 0) (.int .u64 (b:Int))).setCell (aV d 0) (.int .u64 ((a:Int) % (m:Int)))).drew) d (a % m)):=yb (by
    have:=AZ (v:=.int .u64 ((a:Int) % (m:Int))) ((Ad w (.int .u64 (b:Int)) (fun e=>Z e.symm)).trans HB.o)
    rw[LD,s _ _ this];simp)
   have H:Hid (LD (((w.setCell (aV f 0) (.int .u64 (b:Int))).setCell (aV d 0) (.int .u64 ((a:Int) % (m:Int)))).drew) f b):=yb (s _ _ ((Ad _ _ Z).trans (AZ HA.o)))
   have I:(((w.setCell (aV f 0) (.int .u64 (b:Int))).setCell (aV d 0) (.int .u64 ((a:Int) % (m:Int)))).drew).heap.size=w.heap.size:=by simp
   have G:Hid (J (k+1) (fun c=>c=f∨c=d) (((w.setCell (aV f 0) (.int .u64 (b:Int))).setCell (aV d 0) (.int .u64 ((a:Int) % (m:Int)))).drew)):=yb (ae.o _ _ _ _ _ a7.o (Nat.le_of_eq I.symm) rfl rfl rfl (fun c t _=>by
    have h1:c≠f:=fun e=>t (.inl e)
    have h2:c≠d:=fun e=>t (.inr e)
    exact (Ad _ _ h2).trans (Ad _ _ h1)) (fun c t=>.inl t))
   have N:W.heap.size<=w.heap.size:=yu g.o.2.2.2.1 ag.o.1
   generalize a6:(((w.setCell (aV f 0) (.int .u64 (b:Int))).setCell (aV d 0) (.int .u64 ((a:Int) % (m:Int)))).drew)=W4 at H y G I
   have z:Hid (W.heap.size<=W4.heap.size):=yb (by omega)
   have ak:Hid (∀c,(c=f∨c=d)->((c=f∨c=d)∨W.heap.size<=c)∧c < W4.heap.size):=yb (fun c t=>⟨.inl t,by have:=HK.o c t;have:=z.o;omega⟩)
   clear I N s
   have HM:=yb x
   have a0:((a:Int) % (m:Int))=((a % m:Nat):Int):=by simp
   have T:=yb a0
   clear a0
   by_cases L:a % m=0
   ·have ai:((a:Int) % (m:Int)==0)=true:=by
     rw[T.o,L];rfl
    rw[x] at L
    have hdr:=g.o.1
    rw[Ou u L] at hdr
    have M:xs.length=k+2:=by
     have:=yF List.length hdr
     simp at this;omega
    have j:(xs.map Tj)[k+1]'(by simp;omega)=#[.int .u64 (b:Int)]:=by
     have e2:xs[k+1]'(by omega)=b:=by
      have:=yF (fun l=>l[1]?) hdr
      simp[List.getElem?_drop] at this
      rw[yk (by omega)] at this
      exact yi this
     rw[zG,e2];rfl
    obtain ⟨ah,A,q,B,F,p⟩:=HR.o (k+1) (by omega) (fun c=>c=f∨c=d) W4 G.o z.o ak.o
    rw[j] at F
    have X:=yb p
    have ac:=yb M
    have O:=y.o.cell
    have an:=H.o.cell
    clear p j hdr M L x
    go_region
    clear a6
    go_upto_region 3 with fail
    refine (qc (n:=n)).1 ?_
    gi_wp2
    refine X.o.mono ?_
    rintro e W5 (⟨rfl,Y,hs⟩|⟨rfl,U,hs⟩|⟨ch,rfl,hp,hs⟩)
    ·have aa:=yb Y
     clear Y hs F
     gi_wp2
     go_wp2
     refine zw (zq rfl _ _ _) rfl (.inl ⟨⟨_,rfl⟩,.inl ⟨trivial,(fun c=>c=f∨c=d),?_⟩⟩)
     have:=aa.o
     rwa [show k+1+1=xs.length by have:=ac.o;omega] at this
    ·have ad:=yb U
     clear U hs F
     gi_wp2
     go_wp2
     exact zw (zq rfl _ _ _) rfl (.inl ⟨⟨_,rfl⟩,.inr ⟨_,ad.o⟩⟩)
    ·exact ⟨rfl,.inr ⟨ch,rfl,_,hp⟩⟩
   ·have ai:((a:Int) % (m:Int)==0)=false:=by
     rw[T.o];simp;omega
    have HZ:Hid (¬ a % max b 1=0):=yb (by rw[<-x];exact L)
    have O:=y.o.cell
    clear L x
    go_region
    clear a6
    go_wp2
    have C:=Mr u HZ.o
    have a2:W4.cell? (aV d 0)=some (.int .u64 ((a % max b 1:Nat):Int)):=by rw[<-HM.o];exact O
    have ab:=g.o.2.2.2.2.2.1.cell
    refine ⟨⟨k+1,b,a % max b 1,yb ⟨?_,by have:=g.o.2.1;omega,G.o,z.o,H.o,by rw[<-HM.o];exact y.o,g.o.2.2.2.2.2.2.2,?_⟩⟩,?_⟩
    ·have h1:=g.o.1
     rw[C.1,xg K] at h1
     exact (xb h1).2
    ·have:=g.o.2.2.2.2.2.2.2
     have:=C.2
     omega
    ·rw[a2,ab]
     have:=C.2
     generalize a % max b 1=r at this ⊢
     show (r:Int).toNat < (b:Int).toNat
     omega
end Go.Proofs.YtjofgpfocadomaaGreatDoor
namespace Go.Proofs.YtjofgpfocadomaaGreatDoor
open Go.RowKit
set_option linter.unusedSimpArgs false
attribute [local go_sem] Oper.semAt_some
theorem KV(a b:Int)(w:World):Calls Tryz.prog 41 #[.int .u64 a,.int .u64 b] w fun e w'=>e=.returned (.func (.func 78) #[] #[.pointer (some ⟨w.heap.size,0,none⟩),.pointer (some ⟨w.heap.size+1,0,none⟩)])∧w'=(w.alloc (.cells #[.int .u64 a] 73)).alloc (.cells #[.int .u64 b] 73):=by
 have c:∀(fn:Fn) (first cap:Array Value) (w:World),(Instr.makeFunc fn first cap).run Tryz.prog w=.ok (.func fn first cap) w:=fun _ _ _ _=>rfl
 go_enter Tryz.func41,Tryz.ntmps41
 go_wp2
 go_ret
 exact ⟨rfl,rfl⟩
theorem KW(d:Nat):∀(l:List Nat) (k:Nat) (h:k < l.length),Ie d (l.take (k+1))=l[k]
 |[],k,h=>absurd h (by simp)
 |x::r,0,_=>rfl
 |x::r,k+1,h=>by
  have a:k < r.length:=by simpa using h
  show Ie x (r.take (k+1))=r[k]
  rw[Ot (by cases r with|nil=>simp at a|cons y s=>simp) x d]
  exact KW d r k a
def DJ(g:Nat)(w:World)(d:Nat)(xs:List Nat)(k:Nat)(O:NP)(W:World):Prop:=(∀b,O b->g < b)∧Below g w W∧g < W.heap.size∧LD W g (Ie d (xs.take k))
theorem DJ.stays{g:Nat}{w:World}{d:Nat}{xs:List Nat}:Ca (DJ g w d xs):=by
 intro k O W p W' e i f l c a j
 have n:=e.2.2.1
 have m:∀b,b<=g->¬ O b:=fun b hb o=>by have:=e.1 b o;omega
 refine ⟨fun b hb=>(j b hb).elim (e.1 b) (fun h=>by omega),e.2.1.trans ⟨f,l,c,i,fun b hb=>a b (m b (by omega)) (by omega)⟩,by omega,(a g (m g (yf _)) n).trans e.2.2.2⟩
theorem JM(a b:Nat)(y:(a:Int) < 18446744073709551616)(z:(b:Int) < 18446744073709551616)(w:World):
  Calls Tryz.prog 29 #[.int .u64 a,.int .u64 b] w fun e w'=>e=.returned (.int .u64 (Nat.gcd a b:Int))∧Below w.heap.size w w':=by
 by_cases hb:b=0
 ·subst hb
  go_enter Tryz.func29,Tryz.ntmps29
  go_wp2
  refine zw (FN rfl rfl (Eu j5 rfl ?_)) rfl ⟨rfl,?_⟩
  ·rw[Nat.gcd_zero_right]
   simp only[World.cell?,World.alloc_heap_new]
   simp
  ·exact (yg _ _).alloc (yf _) _
 have V:((b:Int)==0)=false:=by simpa using hb
 have I:=yb y
 have H:=yb z
 have HB:=yb hb
 clear y z hb
 refine Ba (n:=10) Tryz.func29 rfl ?_
 simp only[Tryz.ntmps29,yq,yx,yH,Nat.reduceAdd,Nat.reduceSub,zy,zA,zQ,zJ,yS,yP]
 iterate 3
  refine A9 (A4 ?_)
  go_wp2
 refine A9 ?_
 refine A9 (A4 ?_)
 go_wp2_with (first|(go_at_call 41;refine (KV _ _ _).mono ?_;rintro e w2 ⟨rfl,rfl⟩))
 refine D7 ?_
 have P:Hid (∀W,W=((w.alloc (.cells #[.int .u64 (b:Int)] 73)).alloc (.cells #[.int .u64 (a:Int)] 73)).alloc (.cells #[.int .u64 (b:Int)] 73)->LD W w.heap.size b∧LD W (w.heap.size+1) a∧LD W (w.heap.size+1+1) b∧Below w.heap.size w W∧W.heap.size=w.heap.size+3):=yb (by
  rintro W rfl
  refine ⟨?_,?_,?_,(((yg _ _).alloc (yf _) _).alloc (by simp) _).alloc (by simp;omega) _,by simp⟩
  ·exact (yD _ _ _ (by simp;omega)).trans ((yD _ _ _ (by simp)).trans (World.alloc_heap_new w _))
  ·have:=World.alloc_heap_new (w.alloc (.cells #[.int .u64 (b:Int)] 73)) (.cells #[.int .u64 (a:Int)] 73)
   rw[z8] at this
   exact (yD _ _ _ (by simp)).trans this
  ·have:=World.alloc_heap_new ((w.alloc (.cells #[.int .u64 (b:Int)] 73)).alloc (.cells #[.int .u64 (a:Int)] 73)) (.cells #[.int .u64 (b:Int)] 73)
   rw[z8,z8] at this
   exact this)
 generalize v:((w.alloc (.cells #[.int .u64 (b:Int)] 73)).alloc (.cells #[.int .u64 (a:Int)] 73)).alloc (.cells #[.int .u64 (b:Int)] 73)=N
 obtain ⟨n0,n1,n2,s,Q⟩:=P.o N v.symm
 clear v P
 generalize hg:w.heap.size=g at*
 have F:=yb s
 have B:=yb Q
 clear s Q
 refine NF (n:=10) (K:=fun c=>c=g+1∨c=g+1+1) Tryz.func29 rfl (fun _ _=>rfl) (fun c j=>by have:=B.o;omega) (Tk 9 (by omega) (g+1) (g+1+1) a b (by omega) I.o H.o N n1 n2) (fun x hx=>by
   obtain ⟨r, -,rfl⟩:=xR.1 hx;rfl)
  (DJ g w b (Ef a b)) (fun _ _ _=>False) (fun _ _ _=>False)
  (fun k M O W=>DJ g w b (Ef a b) k O W∧∃q,M={tmps:=#[.int .u64 a,.int .u64 b,undef,undef,pV g 0,.int .u64 (((Ef a b).getD k 0:Nat):Int),.int .u64 b,.bool false,undef,.int .u64 b,.int .u64 a,.int .u64 b,.func (.func 78) #[] #[pV (g+1) 0,pV (g+1+1) 0],q,undef,undef],defers:=[]})
  DJ.stays (fun _ _ _ _ _ _ h=>h.elim) (fun _ _ _ _ _ _ h=>h.elim) (fun M k O W Z W' h h1 h2 h3 U h5 h6=>⟨DJ.stays k O W Z W' h.1 h1 h2 h3 U h5 h6,h.2⟩) (fun _ _ _ _=>trivial) (fun _ _ _ h=>h.elim) (fun _ h=>by cases h) ?_ ?_ ?_ ?_ (fun _ _ _ _ _ _ h=>h.elim) (fun _ _ _ _ _ _ h=>h.elim)
 ·refine ⟨fun c j=>by rcases j with rfl|rfl<;>omega,F.o,by have:=B.o;omega,?_⟩
  exact n0
 ·intro k A O W l f Y E _
  have d:k < (Ef a b).length:=by simpa using A
  obtain ⟨r,h1,h2⟩:∃r:Nat,((Ef a b).map Tj)[k]=#[.int .u64 (r:Int)]∧(Ef a b).getD k 0=r:=⟨(Ef a b)[k],by rw[zG];rfl,by simp[List.getD,d]⟩
  rw[h1,h2]
  have i:=yb f
  clear f Y E h1 h2 A d
  gi_wp2
  first
  |exact ⟨AL.refl _ _,i.o,_,rfl⟩
  |(rename_i G;exact G _ _ ⟨AL.refl _ _,i.o,_,rfl⟩)
  |(rename_i G _;exact G _ _ ⟨AL.refl _ _,i.o,_,rfl⟩)
 ·rintro k A O W l a1 E p R ⟨f,q,rfl⟩
  have d:k < (Ef a b).length:=by simpa using A
  have hr:Ie b ((Ef a b).take (k+1))=(Ef a b).getD k 0:=by
   rw[KW _ _ _ d];simp[List.getD,d]
  have S:=yb hr
  generalize (Ef a b).getD k 0=r at*
  have i:=yb f
  have j:=f.2.2.2.cell
  have T:=f.2.2.2.free
  clear f E p hr
  gi_wp2
  refine ⟨⟨by simp,fun c j=>Ad _ _ (by have:=i.o.1 c j;omega)⟩,i.o.1,i.o.2.1.trans ⟨rfl,rfl,rfl,by simp,fun c j=>Ad _ _ (by omega)⟩,by have:=i.o.2.2.1;simpa using this,?_⟩
  rw[S.o]
  exact AZ i.o.2.2.2
 ·rintro - D O W hD - f m
  have hr:Ie b ((Ef a b).take ((Ef a b).map Tj).length)=Nat.gcd a b:=by
   rw[yX,yT];exact Ti b a HB.o
  have i:=yb f
  have u:=f.2.2.2
  rw[hr] at u
  have j:=u.cell
  have T:=u.free
  have X:=yb u
  have HD:=yb m
  clear f hr u m
  refine A4 ?_
  go_wp2
  have t:D≠g:=by have:=B.o;omega
  have C:(W.setCell (aV g 0) (.int .u64 ((Nat.gcd a b:Nat):Int))).heap[D]?=some (.deferred (some [])):=(Ad _ _ t).trans HD.o
  have J:LD (W.setCell (aV g 0) (.int .u64 ((Nat.gcd a b:Nat):Int))) g (Nat.gcd a b):=AZ X.o
  have L:Below g w (W.setCell (aV g 0) (.int .u64 ((Nat.gcd a b:Nat):Int))):=i.o.2.1.trans ⟨rfl,rfl,rfl,by simp,fun c j=>Ad _ _ (by omega)⟩
  refine ⟨by simp,.inl ⟨_,_,rfl,run_takeDeferred C,⟨_,FN rfl rfl (Eu j5 rfl ((LD.cell (a:=Nat.gcd a b) (World.putObj_heap_other (xi t) |>.trans J)))),rfl,J7 L (by have:=B.o;omega) _⟩⟩⟩
end Go.Proofs.YtjofgpfocadomaaGreatDoor
namespace Go.Proofs.YtjofgpfocadomaaGreatDoor
open Go.RowKit
set_option linter.unusedSimpArgs false
def Rt.v(r:Rt):Value:=.agg #[.int .i64 r.n,.int .i64 r.d]
def PT(b:Bool):Int:=if b=true then 0 else 120
theorem KX(r:Rt)(w:World):Calls Tryz.prog 42 #[r.v] w fun e w'=>e=.returned (.int .i64 (PT (BG r)))∧Below w.heap.size w w':=by
 obtain ⟨n,d⟩:=r
 unfold Rt.v
 dsimp only
 by_cases h1:1<=d
 rotate_left
 ·have e1:decide (d < 1)=true:=by simp[Dl] at h1 ⊢;omega
  have hf:Hid (BG ⟨n,d⟩=false):=yb (by unfold BG;simp[*])
  clear h1
  go_enter Tryz.func42,Tryz.ntmps42
  go_wp2
  go_region
  go_wp2
  go_ret
  exact ⟨by rw[hf.o];rfl,((yg _ _).alloc (yf _) _).drew⟩
 have e1:decide (d < 1)=false:=by simp[Dl] at h1 ⊢;omega
 by_cases h2:d<=Dl
 rotate_left
 ·have e2:decide (1073741824 < d)=true:=by simp[Dl] at h2 ⊢;omega
  have hf:Hid (BG ⟨n,d⟩=false):=yb (by unfold BG;simp[*])
  clear h1 h2
  go_enter Tryz.func42,Tryz.ntmps42
  go_wp2
  go_region
  go_wp2
  go_ret
  exact ⟨by rw[hf.o];rfl,((yg _ _).alloc (yf _) _).drew⟩
 have e2:decide (1073741824 < d)=false:=by simp[Dl] at h2 ⊢;omega
 by_cases h3: -Dl<=n
 rotate_left
 ·have e3:decide (n < -1073741824)=true:=by simp[Dl] at h3 ⊢;omega
  have hf:Hid (BG ⟨n,d⟩=false):=yb (by unfold BG;simp[*])
  clear h1 h2 h3
  go_enter Tryz.func42,Tryz.ntmps42
  go_wp2
  go_region
  go_wp2
  go_ret
  exact ⟨by rw[hf.o];rfl,((yg _ _).alloc (yf _) _).drew⟩
 have e3:decide (n < -1073741824)=false:=by simp[Dl] at h3 ⊢;omega
 by_cases h4:n<=Dl
 rotate_left
 ·have e4:decide (1073741824 < n)=true:=by simp[Dl] at h4 ⊢;omega
  have hf:Hid (BG ⟨n,d⟩=false):=yb (by unfold BG;simp[*])
  clear h1 h2 h3 h4
  go_enter Tryz.func42,Tryz.ntmps42
  go_wp2
  go_region
  go_wp2
  go_ret
  exact ⟨by rw[hf.o];rfl,((yg _ _).alloc (yf _) _).drew⟩
 have e4:decide (1073741824 < n)=false:=by simp[Dl] at h4 ⊢;omega
 have HC:Hid (BG ⟨n,d⟩=decide (Int.gcd n d=1)):=yb (by unfold BG;simp[h1,h2,h3,h4])
 have HM:Hid (∀W,Calls Tryz.prog 28 #[.int .i64 n] W fun e w'=>e=.returned (.int .u64 (n.natAbs:Int))∧w'=W):=yb (fun W=>FF n (by unfold Dl at h3;omega) (by unfold Dl at h4;omega) W)
 obtain ⟨k,hk⟩:∃k:Nat,k=d.toNat:=⟨_,rfl⟩
 have hk1:(k:Int)=d:=by omega
 have hw:IntKind.u64.wrap d=(k:Int):=by rw[GR,hk1];unfold Dl at h2;omega
 have HG:Hid (Int.gcd n d=Nat.gcd n.natAbs k):=yb (by unfold Int.gcd;congr 1;omega)
 have HD:Hid (∀W,Calls Tryz.prog 29 #[.int .u64 (n.natAbs:Int),.int .u64 (k:Int)] W fun e w'=>e=.returned (.int .u64 ((Nat.gcd n.natAbs k:Nat):Int))∧Below W.heap.size W w'):=yb (fun W=>JM n.natAbs k (by unfold Dl at h3 h4;omega) (by unfold Dl at h2;omega) W)
 clear h1 h2 h3 h4 hk hk1
 generalize n.natAbs=m at*
 generalize Nat.gcd m k=g at*
 rw[HC.o,HG.o]
 clear HC HG
 have HS1:Hid ((w.alloc (.cells #[.int .i64 n,.int .i64 d] 44)).drew.cell? ⟨w.heap.size,0,none⟩=some (.int .i64 n)∧(w.alloc (.cells #[.int .i64 n,.int .i64 d] 44)).drew.cell? ⟨w.heap.size,1,none⟩=some (.int .i64 d)):=yb (by
  have h:=World.alloc_heap_new w (.cells #[.int .i64 n,.int .i64 d] 44)
  simp only[World.cell?,World.drew,h];simp)
 have HB1:Hid (Below w.heap.size w (w.alloc (.cells #[.int .i64 n,.int .i64 d] 44)).drew):=yb (((yg _ _).alloc (yf _) _).drew)
 go_enter Tryz.func42,Tryz.ntmps42
 go_wp2
 go_region_held3 (fun w'=>w'.cell? ⟨w.heap.size,0,none⟩=some (.int .i64 n)∧w'.cell? ⟨w.heap.size,1,none⟩=some (.int .i64 d)) (first|exact HS1.o|exact HS2.o) (first|(go_at_call 28;refine (HM.o _).mono ?_;rintro e w2 ⟨rfl,rfl⟩)|(go_at_call 29;refine (HD.o _).mono ?_;rintro e w2 ⟨rfl,hw2⟩;have HS2:=yb (And.intro ((hw2.cell (p:=⟨w.heap.size,0,none⟩) (yQ _ _ HS1.o.1)).trans HS1.o.1) ((hw2.cell (p:=⟨w.heap.size,1,none⟩) (yQ _ _ HS1.o.2)).trans HS1.o.2));have HB2:=yb (HB1.o.trans (hw2.mono HB1.o.size));clear hw2))
 by_cases hg:g=1
 ·have hgi:((g:Int) !=1)=false:=by simp[hg]
  have hgo:Hid (PT (decide (g=1))=0):=yb (by simp[hg,PT])
  clear hg
  go_wp2
  go_ret
  exact ⟨by rw[hgo.o];rfl,HB2.o⟩
 ·have hgi:((g:Int) !=1)=true:=by simp;omega
  have hgo:Hid (PT (decide (g=1))=120):=yb (by simp[hg,PT])
  clear hg
  go_wp2
  go_ret
  exact ⟨by rw[hgo.o];rfl,HB2.o⟩
theorem Dz{W:World}{b:Nat}{x y:Value}{t:TypeId}(h:W.heap[b]?=some (.cells #[x,y] t (0,0))):W.cell? ⟨b,0,none⟩=some x∧W.cell? ⟨b,1,none⟩=some y∧W.frozen? ⟨b,0,none⟩=false∧W.frozen? ⟨b,1,none⟩=false:=by
 refine ⟨?_,?_,?_,?_⟩
 ·simp only[World.cell?,h];simp
 ·simp only[World.cell?,h];simp
 ·simp[World.frozen?,h]
 ·simp[World.frozen?,h]
theorem KY(x:Int)(h1: -9223372036854775808<=x)(h2:x < 9223372036854775808):IntKind.i64.wrap x=x:=by
 rw[IntKind.wrap_i64];omega
theorem Dc{W:World}{b:Nat}{x y v:Value}{t:TypeId}(h:W.heap[b]?=some (.cells #[x,y] t (0,0))):(W.setCell ⟨b,0,none⟩ v).heap[b]?=some (.cells #[v,y] t (0,0)):=by
 simp[World.setCell,yN,h]
theorem Dn{W:World}{b:Nat}{x y v:Value}{t:TypeId}(h:W.heap[b]?=some (.cells #[x,y] t (0,0))):(W.setCell ⟨b,1,none⟩ v).heap[b]?=some (.cells #[x,v] t (0,0)):=by
 simp[World.setCell,yN,h]
theorem A5{B:Nat}{a W:World}(h:Below B a W){b o:Nat}(hb:B<=b)(v:Value):Below B a (W.setCell ⟨b,o,none⟩ v):=
 h.trans ⟨rfl,rfl,rfl,by simp,fun k hk=>xH W ⟨b,o,none⟩ v k (by show k≠b;omega)⟩
theorem RQ(n d:Int)(h1: -4611686018427387904<=n)(h2:n<=4611686018427387904)(h3: -4611686018427387904<=d)(h4:d<=4611686018427387904)(w:World):Calls Tryz.prog 14 #[.int .i64 n,.int .i64 d] w fun e w'=>e=.returned (.tuple #[(Gz n d).1.v,.int .i64 (Gz n d).2])∧Below w.heap.size w w':=by
 by_cases hd:d=0
 ·have hm:Hid (Gz n d=(J2,120)):=yb (by unfold Gz;rw[yw hd])
  have hdi:(d==0)=true:=by simpa using hd
  rw[hm.o]
  clear hd hm
  go_enter Tryz.func14,Tryz.ntmps14
  go_wp2
  exact A3 rfl rfl (World.alloc_heap_new _ _) qY rfl (by kernel_rfl) ⟨rfl,(yg _ _).alloc (yf _) _⟩
 have HM:Hid (∀W,Calls Tryz.prog 28 #[.int .i64 n] W fun e w'=>e=.returned (.int .u64 (n.natAbs:Int))∧w'=W):=yb (fun W=>FF n h1 h2 W)
 have HM2:Hid (∀W,Calls Tryz.prog 28 #[.int .i64 d] W fun e w'=>e=.returned (.int .u64 (d.natAbs:Int))∧w'=W):=yb (fun W=>FF d h3 h4 W)
 have HD:Hid (∀W,Calls Tryz.prog 29 #[.int .u64 (n.natAbs:Int),.int .u64 (d.natAbs:Int)] W fun e w'=>e=.returned (.int .u64 ((Int.gcd n d:Nat):Int))∧Below W.heap.size W w'):=yb (fun W=>JM n.natAbs d.natAbs (by omega) (by omega) W)
 have hdi:(d==0)=false:=by simpa using hd
 have hgp:0 < Int.gcd n d:=Int.gcd_pos_of_ne_zero_right n hd
 have hg0:((Int.gcd n d:Int)==0)=false:=by simp;intro _;exact hd
 obtain ⟨x,hx⟩:∃x:Nat,x=n.natAbs / Int.gcd n d:=⟨_,rfl⟩
 obtain ⟨y,hy⟩:∃y:Nat,y=d.natAbs / Int.gcd n d:=⟨_,rfl⟩
 have hxi:((n.natAbs:Nat):Int) / ((Int.gcd n d:Nat):Int)=(x:Int):=by rw[hx];simp
 have hyi:((d.natAbs:Nat):Int) / ((Int.gcd n d:Nat):Int)=(y:Int):=by rw[hy];simp
 have hxt:((n.natAbs:Nat):Int).tdiv ((Int.gcd n d:Nat):Int)=(x:Int):=by rw[hx];rfl
 have hyt:((d.natAbs:Nat):Int).tdiv ((Int.gcd n d:Nat):Int)=(y:Int):=by rw[hy];rfl
 have hxw:IntKind.u64.wrap (x:Int)=(x:Int):=by
  have:x<=n.natAbs:=by rw[hx];exact Nat.div_le_self _ _
  rw[GR];omega
 have hyw:IntKind.u64.wrap (y:Int)=(y:Int):=by
  have:y<=d.natAbs:=by rw[hy];exact Nat.div_le_self _ _
  rw[GR];omega
 have HMk:Hid (Gz n d=if Dl < max (x:Int) (y:Int) then (J2,2) else (⟨if (decide (n < 0) !=decide (d < 0))=true then -(x:Int) else x,y⟩,0)):=yb (by unfold Gz;rw[yt hd,hx,hy])
 clear h1 h2 h3 h4 hd hgp hx hy
 generalize n.natAbs=m at*
 generalize d.natAbs=k at*
 generalize Int.gcd n d=g at*
 have hgn:¬ ((g:Int)=0):=by simpa using hg0
 have hgm:¬ (g=0):=by omega
 obtain ⟨z,hz⟩:∃z:Int,z=max (x:Int) (y:Int):=⟨_,rfl⟩
 have hzi:(if (x:Int) < (y:Int) then (y:Int) else (x:Int))=z:=by split<;>omega
 have hzj:max (x:Int) (y:Int)=z:=hz.symm
 have HZ:=yb hz
 clear hz
 by_cases hbig:Dl < z
 ·have hdz:decide (1073741824 < z)=true:=by simpa[Dl] using hbig
  have hm:Hid (Gz n d=(J2,2)):=yb (by rw[HMk.o,yw (by rw[<-HZ.o];exact hbig)])
  rw[hm.o]
  clear hbig HMk hm
  go_enter Tryz.func14,Tryz.ntmps14
  go_wp2_with (first|(go_at_call 28;with_reducible refine (HM.o _).mono ?_;rintro e w2 ⟨rfl,rfl⟩)|(go_at_call 28;with_reducible refine (HM2.o _).mono ?_;rintro e w2 ⟨rfl,rfl⟩)|(go_at_call 29;refine (HD.o _).mono ?_;rintro e w2 ⟨rfl,hw2⟩;have hr:w2.heap[w.heap.size]?=some (.cells #[.int .i64 0,.int .i64 0] 44 (0,0)):=(hw2.block _ (by simp)).trans (World.alloc_heap_new _ _);have HR:=yb hr;obtain ⟨c0,c1,f0,f1⟩:=Dz hr;have HB2:=yb (((yg _ w).alloc (yf _) (.cells #[.int .i64 0,.int .i64 0] 44)).trans (hw2.mono (by simp)));clear hw2 hr))
  go_region
  go_wp2
  exact A3 rfl rfl (Dn (Dc HR.o)) qY rfl (by kernel_rfl) ⟨rfl,(A5 (A5 HB2.o (yf _) _) (yf _) _).drew⟩
 have hdz:decide (1073741824 < z)=false:=by simpa[Dl] using hbig
 have hm:Hid (Gz n d=(⟨if (decide (n < 0) !=decide (d < 0))=true then -(x:Int) else x,y⟩,0)):=yb (by rw[HMk.o,yt (by rw[<-HZ.o];exact hbig)])
 have hxs:IntKind.i64.wrap (x:Int)=(x:Int):=by have:=HZ.o;unfold Dl at hbig;exact KY _ (by omega) (by omega)
 have hys:IntKind.i64.wrap (y:Int)=(y:Int):=by have:=HZ.o;unfold Dl at hbig;exact KY _ (by omega) (by omega)
 have hxn:IntKind.i64.wrap (-(x:Int))= -(x:Int):=by have:=HZ.o;unfold Dl at hbig;exact KY _ (by omega) (by omega)
 rw[hm.o]
 clear hbig HMk hm
 have HNe:Hid (∀c d:Bool,(!c==d)=(c !=d)):=yb (by decide)
 cases hne:(decide (n < 0) !=decide (d < 0)) with
 |true=>
  have hnf:=(HNe.o (decide (n < 0)) (decide (d < 0))).trans hne
  go_enter Tryz.func14,Tryz.ntmps14
  go_wp2_with (first|(go_at_call 28;with_reducible refine (HM.o _).mono ?_;rintro e w2 ⟨rfl,rfl⟩)|(go_at_call 28;with_reducible refine (HM2.o _).mono ?_;rintro e w2 ⟨rfl,rfl⟩)|(go_at_call 29;refine (HD.o _).mono ?_;rintro e w2 ⟨rfl,hw2⟩;have hr:w2.heap[w.heap.size]?=some (.cells #[.int .i64 0,.int .i64 0] 44 (0,0)):=(hw2.block _ (by simp)).trans (World.alloc_heap_new _ _);have HR:=yb hr;obtain ⟨c0,c1,f0,f1⟩:=Dz hr;have HB2:=yb (((yg _ w).alloc (yf _) (.cells #[.int .i64 0,.int .i64 0] 44)).trans (hw2.mono (by simp)));clear hw2 hr))
  go_region
  go_wp2
  exact A3 rfl rfl (Dn (Dc (Dc (Dn (Dc HR.o))))) qY rfl (by kernel_rfl) ⟨rfl,(A5 (A5 (A5 (A5 (A5 HB2.o (yf _) _) (yf _) _) (yf _) _) (yf _) _) (yf _) _).drew⟩
 |false=>
  have hnf:=(HNe.o (decide (n < 0)) (decide (d < 0))).trans hne
  go_enter Tryz.func14,Tryz.ntmps14
  go_wp2_with (first|(go_at_call 28;with_reducible refine (HM.o _).mono ?_;rintro e w2 ⟨rfl,rfl⟩)|(go_at_call 28;with_reducible refine (HM2.o _).mono ?_;rintro e w2 ⟨rfl,rfl⟩)|(go_at_call 29;refine (HD.o _).mono ?_;rintro e w2 ⟨rfl,hw2⟩;have hr:w2.heap[w.heap.size]?=some (.cells #[.int .i64 0,.int .i64 0] 44 (0,0)):=(hw2.block _ (by simp)).trans (World.alloc_heap_new _ _);have HR:=yb hr;obtain ⟨c0,c1,f0,f1⟩:=Dz hr;have HB2:=yb (((yg _ w).alloc (yf _) (.cells #[.int .i64 0,.int .i64 0] 44)).trans (hw2.mono (by simp)));clear hw2 hr))
  go_region
  go_wp2
  exact A3 rfl rfl (Dn (Dc (Dn (Dc HR.o)))) qY rfl (by kernel_rfl) ⟨rfl,(A5 (A5 (A5 (A5 HB2.o (yf _) _) (yf _) _) (yf _) _) (yf _) _).drew⟩
set_option linter.unusedSimpArgs false
theorem Un{a:Rt}(h:BG a=true):(a.n.natAbs<=1073741824∧a.d.natAbs<=1073741824):=by
 unfold BG at h
 simp only[yG,z7] at h
 unfold Dl at h
 omega
theorem LQ{x y:Int}(a:x.natAbs<=1073741824)(b:y.natAbs<=1073741824):(x*y).natAbs<=1152921504606846976:=by
 rw[Int.natAbs_mul]
 exact qt a b
theorem AP{x:Int}(h:x.natAbs<=4611686018427387904):wrap64 x=x:=by unfold wrap64;omega
def RR(op:Int)(a b:Rt)(w:World)(e:Ending)(w':World):Prop:=e=.returned (.tuple #[.int .i64 (F3 op a b).1,.int .i64 (F3 op a b).2])∧Below w.heap.size w w'
theorem Kg(a b:Rt)(i:BG a=true)(hb:BG b=true)(w:World):
  Calls Tryz.prog 101 #[a.v,b.v] w (RR 3 a b w)∧Calls Tryz.prog 102 #[a.v,b.v] w (RR 4 a b w)∧Calls Tryz.prog 30 #[a.v,b.v] w (RR 5 a b w)∧Calls Tryz.prog 104 #[a.v,b.v] w (RR 6 a b w):=by
 have h1:=Un i
 have h2:=Un hb
 obtain ⟨n,d⟩:=a
 obtain ⟨m,k⟩:=b
 unfold Rt.v
 dsimp only at h1 h2 ⊢
 have o:=LQ h1.1 h2.2
 have y:=LQ h2.1 h1.2
 have t:=LQ h1.2 h2.2
 have q:=LQ h1.1 h2.1
 have r:=LQ h1.2 h2.1
 have u:=AP (x:=n*k) (by omega)
 have z:=AP (x:=m*d) (by omega)
 have h:=AP (x:=d*k) (by omega)
 have j:=AP (x:=n*m) (by omega)
 have s:=AP (x:=d*m) (by omega)
 have l:=AP (x:=n*k+m*d) (by omega)
 have p:=AP (x:=n*k - m*d) (by omega)
 clear h1 h2 o y t q r i hb
 have e:F3 3 ⟨n,d⟩ ⟨m,k⟩=(n*k+m*d,d*k):=by simp[F3]
 have f:F3 4 ⟨n,d⟩ ⟨m,k⟩=(n*k - m*d,d*k):=by simp[F3]
 have g:F3 5 ⟨n,d⟩ ⟨m,k⟩=(n*m,d*k):=by simp[F3]
 have c:F3 6 ⟨n,d⟩ ⟨m,k⟩=(n*k,d*m):=by simp[F3]
 refine ⟨?_,?_,?_,?_⟩
 ·clear f g c;go_enter Tryz.func101,Tryz.ntmps101
  go_wp2
  go_region
  go_wp2
  refine zw (results_tmp2 rfl _ _ _) rfl ⟨?_,(((yg _ _).alloc (yf _) _).alloc (by simp) _).drew⟩
  rw[e]
  show Ending.returned (.tuple #[iV (wrap64 (n*k+m*d)),iV (wrap64 (d*k))])=_
  rw[l,h]
 ·clear e g c;go_enter Tryz.func102,Tryz.ntmps102
  go_wp2
  go_region
  go_wp2
  refine zw (results_tmp2 rfl _ _ _) rfl ⟨?_,(((yg _ _).alloc (yf _) _).alloc (by simp) _).drew⟩
  rw[f]
  show Ending.returned (.tuple #[iV (wrap64 (n*k - m*d)),iV (wrap64 (d*k))])=_
  rw[p,h]
 ·clear e f c;go_enter Tryz.func30,Tryz.ntmps30
  go_wp2
  go_region
  go_wp2
  refine zw (results_tmp2 rfl _ _ _) rfl ⟨?_,(((yg _ _).alloc (yf _) _).alloc (by simp) _).drew⟩
  rw[g]
  show Ending.returned (.tuple #[iV (wrap64 (n*m)),iV (wrap64 (d*k))])=_
  rw[j,h]
 ·clear e f g;go_enter Tryz.func104,Tryz.ntmps104
  go_wp2
  go_region
  go_wp2
  refine zw (results_tmp2 rfl _ _ _) rfl ⟨?_,(((yg _ _).alloc (yf _) _).alloc (by simp) _).drew⟩
  rw[c]
  show Ending.returned (.tuple #[iV (wrap64 (n*k)),iV (wrap64 (d*m))])=_
  rw[u,s]
structure Vt (w:World) (f:Value) (a b:Rt) (W:World):Prop where
 below:Below w.heap.size w W
 fn:W.heap[w.heap.size]?=some (.cells #[f] 78 (0,0))
 a:W.heap[w.heap.size+1]?=some (.cells #[.int .i64 a.n,.int .i64 a.d] 44 (0,0))
 b:W.heap[w.heap.size+1+1]?=some (.cells #[.int .i64 b.n,.int .i64 b.d] 44 (0,0))
 r:W.heap[w.heap.size+1+1+1]?=some (.cells #[.int .i64 0,.int .i64 0] 44 (0,0))
theorem Vt.lt{w:World}{f:Value}{a b:Rt}{W:World}(h:Vt w f a b W):w.heap.size+3 < W.heap.size:=(yd.1 h.r).1
theorem Vt.up{w:World}{f:Value}{a b:Rt}{W W':World}(h:Vt w f a b W)(c:Below W.heap.size W W'):Vt w f a b W':=by
 have d:=h.lt
 exact ⟨h.below.trans (c.mono (by omega)),(c.block _ (by omega)).trans h.fn,(c.block _ (by omega)).trans h.a,(c.block _ (by omega)).trans h.b,(c.block _ (by omega)).trans h.r⟩
theorem Uo(w:World)(f:Value)(a b:Rt):Vt w f a b ((((w.alloc (.cells #[f] 78)).alloc (.cells #[.int .i64 a.n,.int .i64 a.d] 44)).alloc (.cells #[.int .i64 b.n,.int .i64 b.d] 44)).alloc (.cells #[.int .i64 0,.int .i64 0] 44)):=by
 have h1:=World.alloc_heap_new w (.cells #[f] 78)
 have h2:=World.alloc_heap_new (w.alloc (.cells #[f] 78)) (.cells #[iV a.n,iV a.d] 44)
 have h3:=World.alloc_heap_new ((w.alloc (.cells #[f] 78)).alloc (.cells #[iV a.n,iV a.d] 44)) (.cells #[iV b.n,iV b.d] 44)
 have c:=World.alloc_heap_new (((w.alloc (.cells #[f] 78)).alloc (.cells #[iV a.n,iV a.d] 44)).alloc (.cells #[iV b.n,iV b.d] 44)) (.cells jc 44)
 simp only[z8] at h2 h3 c
 refine ⟨((((yg _ _).alloc (yf _) _).alloc (by simp) _).alloc (by simp<;>omega) _).alloc (by simp<;>omega) _,?_,?_,?_,c⟩
 ·exact (yD _ _ _ (by simp<;>omega)).trans ((yD _ _ _ (by simp<;>omega)).trans ((yD _ _ _ (by simp)).trans h1))
 ·exact (yD _ _ _ (by simp<;>omega)).trans ((yD _ _ _ (by simp)).trans h2)
 ·exact (yD _ _ _ (by simp)).trans h3
theorem N8{W:World}{b:Nat}{x:Value}{t:TypeId}(h:W.heap[b]?=some (.cells #[x] t (0,0))):W.cell? ⟨b,0,none⟩=some x:=by simp[World.cell?,h]
theorem Kh(op:Int)(id:FuncId)(a b:Rt)(U:∀args W,(callFunc id args).run Tryz.prog W=.ok (.enter id args) W)(T:BG a=true->BG b=true->∀W,Calls Tryz.prog id #[a.v,b.v] W (RR op a b W))(J:BG a=true->BG b=true->(F3 op a b).1.natAbs<=4611686018427387904∧(F3 op a b).2.natAbs<=4611686018427387904)(w:World):
  Calls Tryz.prog 31 #[.agg #[.func (.func id) #[] #[]],a.v,b.v] w fun e w'=>e=.returned (.tuple #[(QO op a b).1.v,.int .i64 (QO op a b).2])∧Below w.heap.size w w':=by
 have p:Hid (∀W,Calls Tryz.prog 42 #[a.v] W fun e w'=>e=.returned (iV (PT (BG a)))∧Below W.heap.size W w'):=yb (KX a)
 have t:Hid (∀W,Calls Tryz.prog 42 #[b.v] W fun e w'=>e=.returned (iV (PT (BG b)))∧Below W.heap.size W w'):=yb (KX b)
 unfold QO
 have S:=yb T
 have Q:=yb J
 clear T J
 generalize M:BG a=ca at*
 generalize P:BG b=cb at*
 clear M P
 obtain ⟨u,l⟩:=a
 obtain ⟨s,m⟩:=b
 unfold Rt.v at*
 dsimp only at*
 have d:=yb (Uo w (.func (.func id) #[] #[]) ⟨u,l⟩ ⟨s,m⟩)
 dsimp only at d
 go_enter Tryz.func31,Tryz.ntmps31
 refine Ae fun K R=>?_
 go_wp2
 refine R.o _ _ ?_
 clear R
 generalize X:(((w.alloc (.cells #[.func (.func id) #[] #[]] 78)).alloc (.cells #[iV u,iV l] 44)).alloc (.cells #[iV s,iV m] 44)).alloc (.cells jc 44)=W0 at*
 clear X
 obtain ⟨E,a1,q,z⟩:=Dz d.o.a
 obtain ⟨A,b1,g,h⟩:=Dz d.o.b
 obtain ⟨C,r1,j,k⟩:=Dz d.o.r
 have G:=N8 d.o.fn
 cases ca with
 |false=>
  have L:Hid (∀W,Calls Tryz.prog 42 #[.agg #[iV u,iV l]] W fun e w'=>e=.returned (iV 120)∧Below W.heap.size W w'):=p
  clear p t
  go_wp2_with (first|(go_at_call 42;with_reducible refine (L.o _).mono ?_;rintro e w2 ⟨rfl,i⟩;have c:=yb (d.o.up i);clear d i G C r1 j k E a1 q z A b1 g h;obtain ⟨C,r1,j,k⟩:=Dz c.o.r))
  exact A3 rfl rfl (Dn (Dc c.o.r)) qY rfl (by kernel_rfl) ⟨rfl,A5 (A5 c.o.below (by omega) _) (by omega) _⟩
 |true=>
  have L:Hid (∀W,Calls Tryz.prog 42 #[.agg #[iV u,iV l]] W fun e w'=>e=.returned (iV 0)∧Below W.heap.size W w'):=p
  cases cb with
  |false=>
   have O:Hid (∀W,Calls Tryz.prog 42 #[.agg #[iV s,iV m]] W fun e w'=>e=.returned (iV 120)∧Below W.heap.size W w'):=t
   clear p t
   go_wp2_with (first|(go_at_call 42;with_reducible refine (L.o _).mono ?_;rintro e w2 ⟨rfl,i⟩;have c:=yb (d.o.up i);clear d i G C r1 j k E a1 q z A b1 g h;obtain ⟨A,b1,g,h⟩:=Dz c.o.b)|(go_at_call 42;with_reducible refine (O.o _).mono ?_;rintro e V ⟨rfl,n⟩;have f:=yb (c.o.up n);clear c n A b1 g h;obtain ⟨C,r1,j,k⟩:=Dz f.o.r))
   exact A3 rfl rfl (Dn (Dc f.o.r)) qY rfl (by kernel_rfl) ⟨rfl,A5 (A5 f.o.below (by omega) _) (by omega) _⟩
  |true=>
   have O:Hid (∀W,Calls Tryz.prog 42 #[.agg #[iV s,iV m]] W fun e w'=>e=.returned (iV 0)∧Below W.heap.size W w'):=t
   clear p t
   have J:=Q.o rfl rfl
   have N:Hid (∀W,Calls Tryz.prog 14 #[iV (F3 op ⟨u,l⟩ ⟨s,m⟩).1,iV (F3 op ⟨u,l⟩ ⟨s,m⟩).2] W fun e w'=>e=.returned (.tuple #[(Gz (F3 op ⟨u,l⟩ ⟨s,m⟩).1 (F3 op ⟨u,l⟩ ⟨s,m⟩).2).1.v,iV (Gz (F3 op ⟨u,l⟩ ⟨s,m⟩).1 (F3 op ⟨u,l⟩ ⟨s,m⟩).2).2])∧Below W.heap.size W w'):=yb (fun W=>RQ _ _ (by omega) (by omega) (by omega) (by omega) W)
   have F:=yb (S.o rfl rfl)
   unfold RR at F
   clear J Q S
   simp only[Bool.and_self,zD]
   generalize F3 op ⟨u,l⟩ ⟨s,m⟩=Y at*
   obtain ⟨x,y⟩:=Y
   dsimp only at*
   generalize Gz x y=Z at*
   obtain ⟨⟨mn,md⟩,me⟩:=Z
   unfold Rt.v at*
   dsimp only at*
   go_wp2_with (first|(go_at_call 42;with_reducible refine (L.o _).mono ?_;rintro e w2 ⟨rfl,i⟩;have c:=yb (d.o.up i);clear d i G C r1 j k E a1 q z A b1 g h;obtain ⟨A,b1,g,h⟩:=Dz c.o.b)|(go_at_call 42;with_reducible refine (O.o _).mono ?_;rintro e V ⟨rfl,n⟩;have f:=yb (c.o.up n);clear c n A b1 g h;obtain ⟨E,a1,q,z⟩:=Dz f.o.a;obtain ⟨A,b1,g,h⟩:=Dz f.o.b;have G:=N8 f.o.fn)|fail)
   refine (F.o _).mono ?_
   rintro e w4 ⟨rfl,H⟩
   have I:=yb (f.o.up H)
   clear f H E a1 q z A b1 g h G
   go_wp2_with (first|(go_at_call 14;with_reducible refine (N.o _).mono ?_;rintro e w5 ⟨rfl,D⟩;have B:=yb (I.o.up D);clear I D;obtain ⟨C,r1,j,k⟩:=Dz B.o.r))
   exact A3 rfl rfl (Dn (Dc B.o.r)) qY rfl (by kernel_rfl) ⟨rfl,A5 (A5 B.o.below (by omega) _) (by omega) _⟩
theorem Di(w:World)(o1 o2 a:Obj):(((w.alloc o1).alloc o2).alloc a).heap[w.heap.size+1+1]?=some a:=by
 have h:=World.alloc_heap_new ((w.alloc o1).alloc o2) a
 simpa only[z8] using h
def Vd(op:Int)(a b:Rt)(w:World)(e:Ending)(w':World):Prop:=e=.returned (.tuple #[(QO op a b).1.v,.int .i64 (QO op a b).2])∧Below w.heap.size w w'
theorem N9(a b:Rt)(w:World):
  Calls Tryz.prog 95 #[a.v,b.v] w (Vd 3 a b w)∧Calls Tryz.prog 96 #[a.v,b.v] w (Vd 4 a b w)∧Calls Tryz.prog 15 #[a.v,b.v] w (Vd 5 a b w)∧Calls Tryz.prog 98 #[a.v,b.v] w (Vd 6 a b w):=by
 have d:∀op,BG a=true->BG b=true->(F3 op a b).1.natAbs<=4611686018427387904∧(F3 op a b).2.natAbs<=4611686018427387904:=by
  intro op f hb
  have h1:=Un f
  have h2:=Un hb
  have A:=LQ h1.1 h2.2
  have Q:=LQ h2.1 h1.2
  have L:=LQ h1.2 h2.2
  have G:=LQ h1.1 h2.1
  have H:=LQ h1.2 h2.1
  unfold F3
  split
  ·constructor<;>dsimp only<;>omega
  ·split
   ·constructor<;>dsimp only<;>omega
   ·split<;>constructor<;>dsimp only<;>omega
 have l:=fun W=>Kh 3 101 a b (fun _ _=>rfl) (fun f hb W=>(Kg a b f hb W).1) (d 3) W
 have k:=fun W=>Kh 4 102 a b (fun _ _=>rfl) (fun f hb W=>(Kg a b f hb W).2.1) (d 4) W
 have m:=fun W=>Kh 5 30 a b (fun _ _=>rfl) (fun f hb W=>(Kg a b f hb W).2.2.1) (d 5) W
 have p:=fun W=>Kh 6 104 a b (fun _ _=>rfl) (fun f hb W=>(Kg a b f hb W).2.2.2) (d 6) W
 unfold Vd
 generalize QO 3 a b=r at*
 generalize QO 4 a b=t at*
 generalize QO 5 a b=s at*
 generalize QO 6 a b=q at*
 obtain ⟨⟨O,N⟩,x⟩:=r
 obtain ⟨⟨K,F⟩,D⟩:=t
 obtain ⟨⟨M,B⟩,J⟩:=s
 obtain ⟨⟨y,z⟩,C⟩:=q
 obtain ⟨P,u⟩:=a
 obtain ⟨I,E⟩:=b
 unfold Rt.v at*
 dsimp only at*
 clear d
 have l:=yb l
 have k:=yb k
 have m:=yb m
 have p:=yb p
 refine ⟨?_,?_,?_,?_⟩
 ·go_enter Tryz.func95,Tryz.ntmps95
  go_wp2_with (first|(go_at_call 31;with_reducible refine (l.o _).mono ?_;rintro e w2 ⟨rfl,c⟩;have hr:=(c.block (w.heap.size+1+1) (by simp)).trans (Di _ _ _ _);have g:=yb hr;obtain ⟨n,r1,h,j⟩:=Dz hr;have i:=yb (((((yg w.heap.size w).alloc (yf _) _).alloc (by simp) _).alloc (by simp<;>omega) _).trans (c.mono (by simp<;>omega)));clear c hr))
  exact A3 rfl rfl (Dn (Dc g.o)) qY rfl (by kernel_rfl) ⟨rfl,A5 (A5 i.o (by omega) _) (by omega) _⟩
 ·go_enter Tryz.func96,Tryz.ntmps96
  go_wp2_with (first|(go_at_call 31;with_reducible refine (k.o _).mono ?_;rintro e w2 ⟨rfl,c⟩;have hr:=(c.block (w.heap.size+1+1) (by simp)).trans (Di _ _ _ _);have g:=yb hr;obtain ⟨n,r1,h,j⟩:=Dz hr;have i:=yb (((((yg w.heap.size w).alloc (yf _) _).alloc (by simp) _).alloc (by simp<;>omega) _).trans (c.mono (by simp<;>omega)));clear c hr))
  exact A3 rfl rfl (Dn (Dc g.o)) qY rfl (by kernel_rfl) ⟨rfl,A5 (A5 i.o (by omega) _) (by omega) _⟩
 ·go_enter Tryz.func15,Tryz.ntmps15
  go_wp2_with (first|(go_at_call 31;with_reducible refine (m.o _).mono ?_;rintro e w2 ⟨rfl,c⟩;have hr:=(c.block (w.heap.size+1+1) (by simp)).trans (Di _ _ _ _);have g:=yb hr;obtain ⟨n,r1,h,j⟩:=Dz hr;have i:=yb (((((yg w.heap.size w).alloc (yf _) _).alloc (by simp) _).alloc (by simp<;>omega) _).trans (c.mono (by simp<;>omega)));clear c hr))
  exact A3 rfl rfl (Dn (Dc g.o)) qY rfl (by kernel_rfl) ⟨rfl,A5 (A5 i.o (by omega) _) (by omega) _⟩
 ·go_enter Tryz.func98,Tryz.ntmps98
  go_wp2_with (first|(go_at_call 31;with_reducible refine (p.o _).mono ?_;rintro e w2 ⟨rfl,c⟩;have hr:=(c.block (w.heap.size+1+1) (by simp)).trans (Di _ _ _ _);have g:=yb hr;obtain ⟨n,r1,h,j⟩:=Dz hr;have i:=yb (((((yg w.heap.size w).alloc (yf _) _).alloc (by simp) _).alloc (by simp<;>omega) _).trans (c.mono (by simp<;>omega)));clear c hr))
  exact A3 rfl rfl (Dn (Dc g.o)) qY rfl (by kernel_rfl) ⟨rfl,A5 (A5 i.o (by omega) _) (by omega) _⟩
set_option linter.unusedSimpArgs false
def Dm.row(d:Dm):LV:=[.int .i64 d.l,.int .i64 d.h,.int .i64 d.a]
def Dm.v(d:Dm):Value:=.agg #[.int .i64 d.l,.int .i64 d.h,.int .i64 d.a]
structure GU (w:World):Prop where
 size:6 < w.heap.size
 hours:w.rangeAt 0 0 (Dm.row ⟨0,1,0⟩)
 litres:w.rangeAt 1 0 (Dm.row ⟨1,0,0⟩)
 need:w.rangeAt 2 0 (Dm.row ⟨1,0, -1⟩)
 flow:w.rangeAt 3 0 (Dm.row ⟨1, -1,0⟩)
 none:w.rangeAt 4 0 (Dm.row On)
 ares:w.rangeAt 5 0 (Dm.row ⟨0,0,1⟩)
theorem GU.up{w w':World}(h:GU w)(hb:Below w.heap.size w w'):GU w':=by
 have hs:=h.size
 exact ⟨yv hs hb.size,A0 h.hours (hb.block _ (by omega)),A0 h.litres (hb.block _ (by omega)),A0 h.need (hb.block _ (by omega)),A0 h.flow (hb.block _ (by omega)),A0 h.none (hb.block _ (by omega)),A0 h.ares (hb.block _ (by omega))⟩
theorem KZ{w:World}{b o:Nat}{x y z:Value}(h:w.rangeAt b o [x,y,z]):w.cell? ⟨b,o,none⟩=some x∧w.cell? ⟨b,o+1,none⟩=some y∧w.cell? ⟨b,o+2,none⟩=some z:=
 ⟨h 0 _ rfl,h 1 _ rfl,h 2 _ rfl⟩
theorem GJ{W:World}{b:Nat}{x y z:Value}{t:TypeId}(h:W.heap[b]?=some (.cells #[x,y,z] t (0,0))):W.cell? ⟨b,0,none⟩=some x∧W.cell? ⟨b,1,none⟩=some y∧W.cell? ⟨b,2,none⟩=some z∧W.frozen? ⟨b,0,none⟩=false∧W.frozen? ⟨b,1,none⟩=false∧W.frozen? ⟨b,2,none⟩=false:=by
 refine ⟨?_,?_,?_,?_,?_,?_⟩<;>simp[World.cell?,World.frozen?,h]
theorem Dp{W:World}{b:Nat}{x y z v:Value}{t:TypeId}(h:W.heap[b]?=some (.cells #[x,y,z] t (0,0))):(W.setCell ⟨b,0,none⟩ v).heap[b]?=some (.cells #[v,y,z] t (0,0)):=by
 simp[World.setCell,yN,h]
theorem Dq{W:World}{b:Nat}{x y z v:Value}{t:TypeId}(h:W.heap[b]?=some (.cells #[x,y,z] t (0,0))):(W.setCell ⟨b,1,none⟩ v).heap[b]?=some (.cells #[x,v,z] t (0,0)):=by
 simp[World.setCell,yN,h]
theorem Dr{W:World}{b:Nat}{x y z v:Value}{t:TypeId}(h:W.heap[b]?=some (.cells #[x,y,z] t (0,0))):(W.setCell ⟨b,2,none⟩ v).heap[b]?=some (.cells #[x,y,v] t (0,0)):=by
 simp[World.setCell,yN,h]
theorem Tl(u:Int)(w:World)(m:GU w):Calls Tryz.prog 76 #[.int .i64 u] w fun e w'=>e=.returned (.tuple #[(H9 u).v,.int .i64 (G7 u)])∧Below w.heap.size w w':=by
 have a:=m.up ((yg w.heap.size w).alloc (yf _) (.cells jd 68))
 have b:=yb (World.alloc_heap_new w (.cells jd 68))
 have d:Hid (Below w.heap.size w (w.alloc (.cells jd 68))):=yb ((yg _ _).alloc (yf _) _)
 go_enter Tryz.func76,Tryz.ntmps76
 refine Ae fun K l=>?_
 go_wp2
 refine l.o _ _ ?_
 clear l m
 generalize w.alloc (.cells jd 68)=W at*
 have n:w.heap.size < W.heap.size:=(yd.1 b.o).1
 obtain ⟨t,a1,B⟩:=KZ a.hours
 obtain ⟨q,b1,b2⟩:=KZ a.litres
 obtain ⟨c0,c1,c2⟩:=KZ a.none
 obtain ⟨C,y,x⟩:=KZ a.ares
 obtain ⟨D,r1,r2,z,s,r⟩:=GJ b.o
 clear a n
 have t1:¬ u=1->(u==1)=false:=fun h=>by simpa using h
 have t2:¬ u=2->(u==2)=false:=fun h=>by simpa using h
 have t3:¬ u=3->(u==3)=false:=fun h=>by simpa using h
 have t4:¬ u=4->(u==4)=false:=fun h=>by simpa using h
 have t5:¬ u=5->(u==5)=false:=fun h=>by simpa using h
 have c:=yb (And.intro t1 (And.intro t2 (And.intro t3 (And.intro t4 t5))))
 clear t1 t2 t3 t4 t5
 by_cases h1:u=1
 ·subst h1
  clear c
  go_wp2
  exact A3 rfl rfl (Dr (Dq (Dp b.o))) j3 rfl (by kernel_rfl) ⟨rfl,A5 (A5 (A5 d.o (by omega) _) (by omega) _) (by omega) _⟩
 have g:=c.o.1 h1
 by_cases h2:u=2
 ·subst h2
  clear h1 g
  go_wp2
  exact A3 rfl rfl (Dr (Dq (Dp b.o))) j3 rfl (by kernel_rfl) ⟨rfl,A5 (A5 (A5 d.o (by omega) _) (by omega) _) (by omega) _⟩
 have j:=c.o.2.1 h2
 by_cases h3:u=3
 ·subst h3
  clear h1 h2 g j
  go_wp2
  exact A3 rfl rfl (Dr (Dq (Dp b.o))) j3 rfl (by kernel_rfl) ⟨rfl,A5 (A5 (A5 d.o (by omega) _) (by omega) _) (by omega) _⟩
 have k:=c.o.2.2.1 h3
 by_cases f:u=4
 ·subst f
  clear h1 h2 h3 g j k
  go_wp2
  exact A3 rfl rfl (Dr (Dq (Dp b.o))) j3 rfl (by kernel_rfl) ⟨rfl,A5 (A5 (A5 d.o (by omega) _) (by omega) _) (by omega) _⟩
 have p:=c.o.2.2.2.1 f
 by_cases h5:u=5
 ·subst h5
  clear h1 h2 h3 f g j k p
  go_wp2
  exact A3 rfl rfl (Dr (Dq (Dp b.o))) j3 rfl (by kernel_rfl) ⟨rfl,A5 (A5 (A5 d.o (by omega) _) (by omega) _) (by omega) _⟩
 have A:=c.o.2.2.2.2 h5
 have i:Hid (H9 u=On∧G7 u=1):=yb (by unfold H9 G7;simp[h1,h2,h3,f,h5])
 rw[i.o.1,i.o.2]
 clear h1 h2 h3 f h5 c i
 go_wp2
 exact A3 rfl rfl (Dr (Dq (Dp b.o))) j3 rfl (by kernel_rfl) ⟨rfl,A5 (A5 (A5 d.o (by omega) _) (by omega) _) (by omega) _⟩
theorem Ov(a b c d e f:Int)(w:World):(Op.equalIn 10000 68 (.agg #[.int .i64 a,.int .i64 b,.int .i64 c]) (.agg #[.int .i64 d,.int .i64 e,.int .i64 f])).run Tryz.prog w=.ok (decide (a=d)&&(decide (b=e)&&decide (c=f))) w:=by
 have l:Tryz.prog.underlying 68=some (.array 3 3):=j3
 have hi:Tryz.prog.underlying 3=some (.int .i64):=qQ
 have hs:∀w,(sizeOf 3).run Tryz.prog w=.ok 1 w:=fun w=>by kernel_rfl
 have h:∀w,(isAgg 3).run Tryz.prog w=.ok false w:=fun w=>by
  unfold isAgg
  rw[xt,qb hi w];rfl
 have g:∀x y w,(Op.equalIn 9999 3 (iV x) (iV y)).run Tryz.prog w=.ok (x==y) w:=fun x y w=>run_equalIn_int w 9998 _ _ _ x y hi
 rw[Op.equalIn]
 rw[xt,qb l,xY]
 simp only[xt,hs,xY,Std.Legacy.Range.forIn_eq_forIn_range',Std.Legacy.Range.size,List.range']
 simp only[List.forIn_cons,List.forIn_nil,part,xt,h,xY]
 by_cases h1:a=d
 ·by_cases h2:b=e
  ·by_cases h3:c=f
   ·subst h1 h2 h3;simp[g,h,xt,Result.andThen]
   ·have j:(c==f)=false:=by simpa using h3
    subst h1 h2;simp[g,h,xt,Result.andThen,h3,j]
  ·have i:(b==e)=false:=by simpa using h2
   subst h1;simp[g,h,xt,Result.andThen,h2,i]
 ·have k:(a==d)=false:=by simpa using h1
  simp[g,Result.andThen,h1,k]
theorem L3(a b:Dm)(w:World):Calls Tryz.prog 94 #[a.v,b.v] w fun e w'=>e=.returned (.tuple #[a.v,.bool (decide (a=b))])∧Below w.heap.size w w':=by
 obtain ⟨al,c,d⟩:=a
 obtain ⟨bl,h,f⟩:=b
 unfold Dm.v
 dsimp only
 have j:=Ov al c d bl h f
 have i:Tryz.prog.eqGuardType Tryz.prog.depth 68=false:=by kernel_rfl
 go_enter Tryz.func94,Tryz.ntmps94
 go_wp2
 go_region
 go_wp2
 have g:decide ((⟨al,c,d⟩:Dm)=⟨bl,h,f⟩)=(decide (al=bl)&&(decide (c=h)&&decide (d=f))):=by
  rw[xA];simp[Dm.mk.injEq]
 rw[g]
 exact A3 rfl rfl (Di w _ _ (.cells #[iV al,iV c,iV d] 68)) j3 rfl (by kernel_rfl) ⟨rfl,((((yg _ _).alloc (yf _) _).alloc (by simp) _).alloc (by simp<;>omega) _).drew⟩
theorem Up(s:Int)(w:World):Calls Tryz.prog 97 #[.int .i64 s] w fun e w'=>e=.returned (.func (.func 103) #[] #[.pointer (some ⟨w.heap.size,0,none⟩)])∧w'=w.alloc (.cells #[.int .i64 s] 3):=by
 have a:∀(fn:Fn) (first cap:Array Value) (w:World),(Instr.makeFunc fn first cap).run Tryz.prog w=.ok (.func fn first cap) w:=fun _ _ _ _=>rfl
 go_enter Tryz.func97,Tryz.ntmps97
 go_wp2
 go_ret
 exact ⟨rfl,rfl⟩
structure LR (w:World) (B:Nat) (s l h a:Int) (b:Dm) (W:World):Prop where
 below:Below w.heap.size w W
 s:W.cell? ⟨B,0,none⟩=some (.int .i64 s)
 a:W.heap[w.heap.size]?=some (.cells #[.int .i64 l,.int .i64 h,.int .i64 a] 68 (0,0))
 b:W.heap[w.heap.size+1]?=some (.cells #[.int .i64 b.l,.int .i64 b.h,.int .i64 b.a] 68 (0,0))
 r:W.heap[w.heap.size+1+1]?=some (.cells #[.int .i64 0,.int .i64 0,.int .i64 0] 68 (0,0))
theorem Ht(w:World)(o1 o2 a:Obj):(((w.alloc o1).alloc o2).alloc a).heap[w.heap.size]?=some o1:=
 (yD _ _ _ (by simp<;>omega)).trans ((yD _ _ _ (by simp)).trans (World.alloc_heap_new w o1))
theorem Gv(w:World)(o1 o2 a:Obj):(((w.alloc o1).alloc o2).alloc a).heap[w.heap.size+1]?=some o2:=by
 have h:=World.alloc_heap_new (w.alloc o1) o2
 simp only[z8] at h
 exact (yD _ _ _ (by simp)).trans h
theorem G8(w:World)(o1 o2 a:Obj):Below w.heap.size w (((w.alloc o1).alloc o2).alloc a):=(((yg _ _).alloc (yf _) _).alloc (by simp) _).alloc (by simp<;>omega) _
theorem LR.drew{w:World}{B:Nat}{s l h a:Int}{b:Dm}{W:World}(k:LR w B s l h a b W):LR w B s l h a b W.drew:=⟨k.below.drew,k.s,k.a,k.b,k.r⟩
theorem LR.set{w:World}{B:Nat}{s l h a l' d e:Int}{b:Dm}{W W':World}(k:LR w B s l h a b W)(c:DS W W' w.heap.size [.int .i64 l',.int .i64 d,.int .i64 e] 68)(f:B < w.heap.size):LR w B s l' d e b W':=by
 refine ⟨c.below k.below (yf _),?_,c.row,(c.block _ (by omega)).trans k.b,(c.block _ (by omega)).trans k.r⟩
 have:=k.s
 unfold World.cell? at this ⊢
 rw[c.block B (by omega)];exact this
theorem PU{W:World}{b:Nat}{x y z:Value}{t:TypeId}(h:W.heap[b]?=some (.cells #[x,y,z] t (0,0)))(v:Value):DS W (W.setCell ⟨b,0,none⟩ v) b [v,y,z] t∧DS W (W.setCell ⟨b,1,none⟩ v) b [x,v,z] t∧DS W (W.setCell ⟨b,2,none⟩ v) b [x,y,v] t:=
 ⟨⟨rfl,rfl,rfl,by simp,Dp h,fun k a=>xH W ⟨b,0,none⟩ v k a⟩,⟨rfl,rfl,rfl,by simp,Dq h,fun k a=>xH W ⟨b,1,none⟩ v k a⟩,⟨rfl,rfl,rfl,by simp,Dr h,fun k a=>xH W ⟨b,2,none⟩ v k a⟩⟩
theorem Jg{n:Int}(h:Sy n=true): -4<=n∧n<=4:=by unfold Sy at h;simpa using h
theorem Ow(op:Int)(s:Int)(hs:(op=5∧s=1)∨(op=6∧s= -1))(a b:Dm)(Y:GA a=true)(hb:GA b=true)(B:Nat)(w:World)(hB:w.cell? ⟨B,0,none⟩=some (.int .i64 s)):
  Calls Tryz.prog 103 #[a.v,b.v,.pointer (some ⟨B,0,none⟩)] w fun e w'=>e=.returned (.tuple #[(QP op a b).1.v,.bool (QP op a b).2])∧Below w.heap.size w w':=by
 have R:Hid (QP op a b=if GA (RP s a b)=true then (RP s a b,true) else (On,false)):=yb (by
  unfold QP
  rcases hs with ⟨rfl,rfl⟩|⟨rfl,rfl⟩
  ·rw[yt (by decide)];rfl
  ·rw[yt (by decide)];rfl)
 have M:Hid (B < w.heap.size):=yb (yQ _ _ hB)
 generalize QP op a b=res at R ⊢
 obtain ⟨al,L,J⟩:=a
 obtain ⟨bl,u,t⟩:=b
 unfold GA at Y hb
 simp only[yG] at Y hb
 have g1:=Jg Y.1
 have g2:=Jg Y.2.1
 have g3:=Jg Y.2.2
 have g4:=Jg hb.1
 have g5:=Jg hb.2.1
 have g6:=Jg hb.2.2
 have N:s=1∨s= -1:=by omega
 have q1:wrap64 (s*bl)=s*bl∧wrap64 (al+s*bl)=al+s*bl:=by rcases N with rfl|rfl<;>exact ⟨AP (by omega),AP (by omega)⟩
 have q2:wrap64 (s*u)=s*u∧wrap64 (L+s*u)=L+s*u:=by rcases N with rfl|rfl<;>exact ⟨AP (by omega),AP (by omega)⟩
 have q3:wrap64 (s*t)=s*t∧wrap64 (J+s*t)=J+s*t:=by rcases N with rfl|rfl<;>exact ⟨AP (by omega),AP (by omega)⟩
 obtain ⟨h,X⟩:∃x,x=al+s*bl:=⟨_,rfl⟩
 obtain ⟨i,U⟩:∃x,x=L+s*u:=⟨_,rfl⟩
 obtain ⟨m,S⟩:∃x,x=J+s*t:=⟨_,rfl⟩
 have P:RP s ⟨al,L,J⟩ ⟨bl,u,t⟩=⟨h,i,m⟩:=by unfold RP;rw[X,U,S]
 have q:Hid (res=if GA ⟨h,i,m⟩=true then (⟨h,i,m⟩,true) else (On,false)):=yb (by rw[R.o,P])
 obtain ⟨y1,V⟩:∃y,y=s*bl:=⟨_,rfl⟩
 obtain ⟨y2,Q⟩:∃y,y=s*u:=⟨_,rfl⟩
 obtain ⟨y3,T⟩:∃y,y=s*t:=⟨_,rfl⟩
 have p1:wrap64 (s*bl)=y1:=by rw[V];exact q1.1
 have p2:wrap64 (s*u)=y2:=by rw[Q];exact q2.1
 have p3:wrap64 (s*t)=y3:=by rw[T];exact q3.1
 have r1:wrap64 (al+y1)=h:=by rw[X,V];exact q1.2
 have r2:wrap64 (L+y2)=i:=by rw[U,Q];exact q2.2
 have r3:wrap64 (J+y3)=m:=by rw[S,T];exact q3.2
 clear hs N R P Y hb g1 g2 g3 g4 g5 g6 q1 q2 q3 X U S V Q T
 unfold Dm.v
 dsimp only
 have c:Hid (LR w B s al L J ⟨bl,u,t⟩ (((w.alloc (.cells #[iV al,iV L,iV J] 68)).alloc (.cells #[iV bl,iV u,iV t] 68)).alloc (.cells jd 68))):=yb ⟨G8 _ _ _ _,((G8 w _ _ _).cell (p:=(aV B 0)) M.o).trans hB,Ht _ _ _ _,Gv _ _ _ _,Di _ _ _ _⟩
 clear hB
 go_enter Tryz.func103,Tryz.ntmps103
 refine Ae fun K hK=>?_
 go_wp2
 refine hK.o _ _ ?_
 clear hK
 generalize ((w.alloc (.cells #[iV al,iV L,iV J] 68)).alloc (.cells #[iV bl,iV u,iV t] 68)).alloc (.cells jd 68)=W at c ⊢
 go_wp2
 refine wp_loop_rounds 4 ?_
 rw[qi]
 obtain ⟨D,a1,E,l,j,k⟩:=GJ c.o.a
 obtain ⟨b0,b1,b2,H,I,F⟩:=GJ c.o.b
 have Z:=c.o.s
 have n:Hid (LR w B s h L J ⟨bl,u,t⟩ (W.setCell (aV w.heap.size 0) (iV h)).drew):=yb (c.o.set (PU c.o.a (iV h)).1 M.o).drew
 go_wp2
 go_region
 clear D a1 E l j k b0 b1 b2 H I F Z c
 generalize (W.setCell (aV w.heap.size 0) (iV h)).drew=W at n ⊢
 have c:=n
 clear n
 obtain ⟨D,a1,E,l,j,k⟩:=GJ c.o.a
 obtain ⟨c0,c1,c2,C,A,z⟩:=GJ c.o.r
 by_cases d:h < -4
 ·have G:decide (h < -4)=true:=by simpa using d
  have g:Hid (¬ GA ⟨h,i,m⟩=true):=yb (by unfold GA Sy;simp;omega)
  clear d
  go_wp2
  refine A3 rfl rfl (Dr (Dq (Dp c.o.r))) j3 rfl (by kernel_rfl) ⟨?_,A5 (A5 (A5 c.o.below (by omega) _) (by omega) _) (by omega) _⟩
  rw[q.o,yt g.o];rfl
 by_cases f:4 < h
 ·have G:decide (h < -4)=false:=by simpa using d
  have O:decide (4 < h)=true:=by simpa using f
  have g:Hid (¬ GA ⟨h,i,m⟩=true):=yb (by unfold GA Sy;simp;omega)
  clear d f
  go_wp2
  refine A3 rfl rfl (Dr (Dq (Dp c.o.r))) j3 rfl (by kernel_rfl) ⟨?_,A5 (A5 (A5 c.o.below (by omega) _) (by omega) _) (by omega) _⟩
  rw[q.o,yt g.o];rfl
 have a6:Hid (-4<=h∧h<=4):=yb (by omega)
 have G:decide (h < -4)=false:=by simpa using d
 have O:decide (4 < h)=false:=by simpa using f
 clear d f
 go_wp2
 clear G O D a1 E l j k c0 c1 c2 C A z
 rw[qi]
 obtain ⟨D,a1,E,l,j,k⟩:=GJ c.o.a
 obtain ⟨b0,b1,b2,H,I,F⟩:=GJ c.o.b
 have Z:=c.o.s
 have n:Hid (LR w B s h i J ⟨bl,u,t⟩ (W.setCell (aV w.heap.size 1) (iV i)).drew):=yb (c.o.set (PU c.o.a (iV i)).2.1 M.o).drew
 go_wp2
 go_region
 clear D a1 E l j k b0 b1 b2 H I F Z c
 generalize (W.setCell (aV w.heap.size 1) (iV i)).drew=W at n ⊢
 have c:=n
 clear n
 obtain ⟨D,a1,E,l,j,k⟩:=GJ c.o.a
 obtain ⟨c0,c1,c2,C,A,z⟩:=GJ c.o.r
 by_cases d:i < -4
 ·have G:decide (i < -4)=true:=by simpa using d
  have g:Hid (¬ GA ⟨h,i,m⟩=true):=yb (by unfold GA Sy;simp;omega)
  clear d
  go_wp2
  refine A3 rfl rfl (Dr (Dq (Dp c.o.r))) j3 rfl (by kernel_rfl) ⟨?_,A5 (A5 (A5 c.o.below (by omega) _) (by omega) _) (by omega) _⟩
  rw[q.o,yt g.o];rfl
 by_cases f:4 < i
 ·have G:decide (i < -4)=false:=by simpa using d
  have O:decide (4 < i)=true:=by simpa using f
  have g:Hid (¬ GA ⟨h,i,m⟩=true):=yb (by unfold GA Sy;simp;omega)
  clear d f
  go_wp2
  refine A3 rfl rfl (Dr (Dq (Dp c.o.r))) j3 rfl (by kernel_rfl) ⟨?_,A5 (A5 (A5 c.o.below (by omega) _) (by omega) _) (by omega) _⟩
  rw[q.o,yt g.o];rfl
 have a8:Hid (-4<=i∧i<=4):=yb (by omega)
 have G:decide (i < -4)=false:=by simpa using d
 have O:decide (4 < i)=false:=by simpa using f
 clear d f
 go_wp2
 clear G O D a1 E l j k c0 c1 c2 C A z
 rw[qi]
 obtain ⟨D,a1,E,l,j,k⟩:=GJ c.o.a
 obtain ⟨b0,b1,b2,H,I,F⟩:=GJ c.o.b
 have Z:=c.o.s
 have n:Hid (LR w B s h i m ⟨bl,u,t⟩ (W.setCell (aV w.heap.size 2) (iV m)).drew):=yb (c.o.set (PU c.o.a (iV m)).2.2 M.o).drew
 go_wp2
 go_region
 clear D a1 E l j k b0 b1 b2 H I F Z c
 generalize (W.setCell (aV w.heap.size 2) (iV m)).drew=W at n ⊢
 have c:=n
 clear n
 obtain ⟨D,a1,E,l,j,k⟩:=GJ c.o.a
 obtain ⟨c0,c1,c2,C,A,z⟩:=GJ c.o.r
 by_cases d:m < -4
 ·have G:decide (m < -4)=true:=by simpa using d
  have g:Hid (¬ GA ⟨h,i,m⟩=true):=yb (by unfold GA Sy;simp;omega)
  clear d
  go_wp2
  refine A3 rfl rfl (Dr (Dq (Dp c.o.r))) j3 rfl (by kernel_rfl) ⟨?_,A5 (A5 (A5 c.o.below (by omega) _) (by omega) _) (by omega) _⟩
  rw[q.o,yt g.o];rfl
 by_cases f:4 < m
 ·have G:decide (m < -4)=false:=by simpa using d
  have O:decide (4 < m)=true:=by simpa using f
  have g:Hid (¬ GA ⟨h,i,m⟩=true):=yb (by unfold GA Sy;simp;omega)
  clear d f
  go_wp2
  refine A3 rfl rfl (Dr (Dq (Dp c.o.r))) j3 rfl (by kernel_rfl) ⟨?_,A5 (A5 (A5 c.o.below (by omega) _) (by omega) _) (by omega) _⟩
  rw[q.o,yt g.o];rfl
 have a7:Hid (-4<=m∧m<=4):=yb (by omega)
 have G:decide (m < -4)=false:=by simpa using d
 have O:decide (4 < m)=false:=by simpa using f
 clear d f
 go_wp2
 clear G O D a1 E l j k c0 c1 c2 C A z
 rw[qi]
 obtain ⟨D,a1,E,l,j,k⟩:=GJ c.o.a
 obtain ⟨c0,c1,c2,C,A,z⟩:=GJ c.o.r
 go_wp2
 have g:Hid (GA ⟨h,i,m⟩=true):=yb (by unfold GA Sy;simp[a6.o,a8.o,a7.o])
 refine A3 rfl rfl (Dr (Dq (Dp c.o.r))) j3 rfl (by kernel_rfl) ⟨?_,A5 (A5 (A5 c.o.below (by omega) _) (by omega) _) (by omega) _⟩
 rw[q.o,yw g.o];rfl
set_option linter.unusedSimpArgs false
def Ms(id:FuncId):Value:=.func (.func id) #[] #[]
def JX(id:FuncId)(B:Nat):Value:=.func (.func id) #[] #[.pointer (some ⟨B,0,none⟩)]
def Na(B C:Nat)(k:Int):Value:=if k=3 then Ms 94 else if k=4 then Ms 94 else if k=5 then JX 103 B else JX 103 C
def Ox(k:Int):Value:=if k=3 then Ms 95 else if k=4 then Ms 96 else if k=5 then Ms 15 else Ms 98
def E6(B C:Nat):LV:=[.nilFunc,.nilFunc,.nilFunc,.nilFunc,.nilFunc,.nilFunc,Ms 94,Ms 95,Ms 94,Ms 96,JX 103 B,Ms 15,JX 103 C,Ms 98]
theorem EA(w:World):Calls Tryz.prog 77 #[] w fun e w'=>∃B C,e=.returned (.agg (E6 B C).toArray)∧Below w.heap.size w w'∧w'.cell? ⟨B,0,none⟩=some (.int .i64 1)∧w'.cell? ⟨C,0,none⟩=some (.int .i64 (-1)):=by
 go_enter Tryz.func77,Tryz.ntmps77
 go_wp2_with (first|(go_at_call 97;refine (Up _ _).mono ?_;rintro e w2 ⟨rfl,rfl⟩))
 refine Bg (c:=E6 (w.heap.size+1) (w.heap.size+1+1)) rfl rfl (Ht _ _ _ _) Tryz.underlying168 rfl (by kernel_rfl) ⟨_,_,rfl,G8 _ _ _ _,N8 (Gv _ _ _ _),N8 (Di _ _ _ _)⟩
end Go.Proofs.YtjofgpfocadomaaGreatDoor
