/- Parts of the proof, in short words: Rp Rr Gh Gc Gd Ge Gf Gg Gi -/
import Derived.Test.YtjofgpfocadomaaGreatDoorUc0
import Derived.Test.YtjofgpfocadomaaGreatDoorUc7
import Derived.Deep.RegionHeld2
import Derived.Deep.Cut
import Derived.StillTailTactics
import Derived.BigRegion
import Derived.Laws.StructEq
set_option maxRecDepth 100000
set_option maxHeartbeats 16000000
set_option linter.unusedSimpArgs false
namespace Go.Proofs.YtjofgpfocadomaaGreatDoor
open Go.RowKit
theorem Wx{w:World}{a:ByteArray}(b:a.size<=maxLen):Bd (w.alloc (.cells #[.string a] 9)) ⟨some ⟨w.heap.size,0,none⟩,1,1⟩ 1 0 [a]:=by
 refine ⟨rfl,by simp,fun i hi=>?_⟩
 obtain rfl:i=0:=by simpa using hi
 have h:=World.alloc_heap_new w (.cells #[.string a] 9)
 refine ⟨w.heap.size,0,[.string a],rfl,by simp,rfl,BW ?_,by simp[Value.oneCell'],rfl,b⟩
 simp only[World.cell?,h]
 rfl
theorem Hf{f:FuncId}{args:Array Value}{w:World}{b:Bool}(h:Calls Tryz.prog f args w (Dg w b))(hb:b=true):Calls Tryz.prog f args w fun e w'=>e=.returned (.tuple #[])∧Below w.heap.size w w':=
 h.mono fun e w' a=>by rw[hb] at a;exact ⟨a.2,a.1⟩
theorem K2{f:FuncId}{args:Array Value}{w:World}{b:Bool}(h:Calls Tryz.prog f args w (Dg w b))(hb:b=false):Calls Tryz.prog f args w fun e w'=>e=.panicked (ED 170)∧Below w.heap.size w w':=
 h.mono fun e w' a=>by rw[hb] at a;exact ⟨a.2,a.1⟩
theorem U2{f:FuncId}{args:Array Value}{w:World}{b c:Bool}(h:Calls Tryz.prog f args w (Nl w b))(hb:b=c):Calls Tryz.prog f args w (Nl w c):=hb▸h
theorem X8{Q:QT}{w V:World}{x:Ar}{L:Bt}{cs:LV}{N:NP}(hQ:L9 Q w x)(hP:GA w x L cs N V)(hg:GV V)(hd:∀e∈As x,At e.1<=1000000)
 (u0 u4 u5 u6 u7 u8 u9 de fx fz ew ec dt dp el dz g0 fs eg e9 dq fi fm f4 fy ee ey eb ep f6 dk f9 en f8 ek ex g2 fv dl fu df ft du ei dh ej eq dx dy fo fl em fd fh f7 dv ef dn dc dd fj fk g3 e4 ff di f2 et dg eh fp e2 fw f0 e0 eo e8 ea e3 f3 f5 fg es db fe dw e7 ed fq e5 e1 dj eu dr e6 ez dm cx bu ae bn bo az b8 b0 cw cm bp cp d8 bk ar cc cy d2 cz ch bm bq bv be bh ai cr ag b9 b7 d7 d9 av aw bj ap b4 d4 d5 cu bi cl da ah d0 d1 ct ad ax cv ck cg cq cf c9 aq ba af b5 bz ak ao ci au bw an bg c8 bt cj bx d3 al am:Value):
  FQ 32 Tryz.prog (Gf 2 (Tryz.f32.body.getD .skip)) Q {tmps:=#[u0,.pointer (some ⟨w.heap.size,0,none⟩),.pointer (some ⟨w.heap.size+1,0,none⟩),.pointer (some ⟨w.heap.size+2,0,none⟩),u4,u5,u6,u7,u8,u9,de,fx,fz,ew,ec,dt,dp,el,dz,g0,fs,eg,e9,dq,fi,fm,f4,fy,ee,ey,eb,ep,f6,dk,f9,en,f8,ek,ex,g2,fv,dl,fu,df,ft,du,ei,dh,ej,eq,dx,dy,fo,fl,em,fd,fh,f7,dv,ef,dn,dc,dd,fj,fk,g3,e4,ff,di,f2,et,dg,eh,fp,e2,fw,f0,e0,eo,e8,ea,e3,f3,f5,fg,es,db,fe,dw,e7,ed,fq,e5,e1,dj,eu,dr,e6,ez,dm,cx,bu,ae,bn,bo,az,b8,b0,cw,cm,bp,cp,d8,bk,ar,cc,cy,d2,cz,ch,bm,bq,bv,be,bh,ai,cr,ag,b9,b7,d7,d9,av,aw,bj,ap,b4,d4,d5,cu,bi,cl,da,ah,d0,d1,ct,ad,ax,cv,ck,cg,cq,cf,c9,aq,ba,af,b5,bz,ak,ao,ci,au,bw,an,bg,c8,bt,cj,bx,d3,al,am],defers:=[Jv w.heap.size]} V:=by
 have G:=yb (hP.at.nms fun _ h=>h)
 have f:=yb hP.cells
 have X:Hid (w.heap.size < V.heap.size):=yb (by have:=hP.size;omega)
 have HQ:=yb hQ;have HP:=yb hP;have F:=yb hg
 have HS:Hid (BH (fun b=>b < V.heap.size) V {L with s:=w.heap.size} cs x):=yb (by have h:=hP.at;exact ⟨h.name,h.cells,h.lets,h.crops,h.reaches,h.farms,h.rots,h.rights,h.duties⟩)
 have a8:=yb hP.range
 have HD:=yb hd
 have ac:Hid (x.name.size<=maxLen):=yb hP.src.name
 have R:Hid (∀(c:Int) tm wr,Me w.heap.size tm->Below V.heap.size V wr->AF x=c->c≠0->Q (.panic (ED c)) {tmps:=tm,defers:=[Jv w.heap.size]} wr):=yb (fun c tm wr hv hb C hn=>by
  subst C
  exact hQ.fail tm wr hv (hP.up (hb.mono hP.size)).amid hn)
 clear hQ hP hg hd
 unfold Jv
 cases hf:Bn x with
 |false=>
  have HF:=yb hf
  clear hf
  refine A9 (A4 ?_)
  go_wp2_with (first|(go_at_call 44;refine (U2 (JU HS.o a8.o (fun _ h=>h) X.o HD.o) HF.o).mono ?_;rintro e w2 ⟨J,rfl⟩;have P:=yb J;clear J))
  exact R.o 2 _ _ ⟨rfl,rfl⟩ P.o (by unfold AF;rw[HF.o];rfl) (by decide)
 |true=>
  have HF:=yb hf
  clear hf
  have d:Hid (∀tm wr,Me w.heap.size tm->Below V.heap.size V wr->Cx x=false->Q (.panic (ED 170)) {tmps:=tm,defers:=[Jv w.heap.size]} wr):=yb (fun tm wr hv hb hn=>R.o 170 tm wr hv hb (by unfold AF;rw[HF.o,hn];rfl) (by decide))
  refine A9 (A4 ?_)
  go_wp2_with (first|(go_at_call 44;refine (U2 (JU HS.o a8.o (fun _ h=>h) X.o HD.o) HF.o).mono ?_;rintro e w2 ⟨J,rfl⟩;have P:=yb J;clear J))
  have C:w2.cell? (aV w.heap.size 0)=some (.string x.name):=(P.o.cell (p:=(aV w.heap.size 0)) X.o).trans f.o.name
  have cn:Hid (Bd (w2.alloc (.cells #[.string x.name] 9)) ⟨some (aV w2.heap.size 0),1,1⟩ 1 0 [x.name]):=yb (Wx ac.o)
  have T:Hid (Below V.heap.size V (w2.alloc (.cells #[.string x.name] 9))):=yb (P.o.alloc P.o.size _)
  have aj:Hid (GV (w2.alloc (.cells #[.string x.name] 9))):=yb (F.o.below T.o F.o.1)
  cases Y:Au x.name with
  |false=>
   have B:=yb Y
   clear Y
   refine A9 (A4 ?_)
   go_wp2_with (first|(go_at_call 45;refine (K2 (Mu (h:=⟨some (aV w2.heap.size 0),1,1⟩) cn.o aj.o) (by simp[B.o])).mono ?_;rintro e w3 ⟨rfl,S⟩;have k:=yb (T.o.trans (S.mono T.o.size));clear S))
   exact d.o _ _ ⟨rfl,rfl⟩ k.o (by unfold Cx;rw[B.o];simp)
  |true=>
   have B:=yb Y
   clear Y
   refine A9 (A4 ?_)
   go_wp2_with (first|(go_at_call 45;refine (Hf (Mu (h:=⟨some (aV w2.heap.size 0),1,1⟩) cn.o aj.o) (by simp[B.o])).mono ?_;rintro e w3 ⟨rfl,S⟩;have k:=yb (T.o.trans (S.mono T.o.size));clear S))
   clear C
   have C:w3.cell? (aV w.heap.size 19)=some (.slice L.lets.a L.lets.n L.lets.c):=(k.o.cell (p:=(aV w.heap.size 19)) X.o).trans f.o.lets
   have a0:=yb (G.o.lets.up k.o)
   have co:Hid (GV w3):=yb (F.o.below k.o F.o.1)
   cases g:(x.lets.map (·.name)).all Au with
   |false=>
    have A:=yb g
    clear g
    refine A9 (A4 ?_)
    go_wp2_with (first|(go_at_call 47;refine (K2 (Ms a0.o co.o) A.o).mono ?_;rintro e w4 ⟨rfl,I⟩;have r:=yb (k.o.trans (I.mono k.o.size));clear I))
    exact d.o _ _ ⟨rfl,rfl⟩ r.o (by unfold Cx;rw[A.o];simp)
   |true=>
    have A:=yb g
    clear g
    refine A9 (A4 ?_)
    go_wp2_with (first|(go_at_call 47;refine (Hf (Ms a0.o co.o) A.o).mono ?_;rintro e w4 ⟨rfl,I⟩;have r:=yb (k.o.trans (I.mono k.o.size));clear I))
    clear C
    have C:w4.cell? (aV w.heap.size 20)=some (.slice L.crops.a L.crops.n L.crops.c):=(r.o.cell (p:=(aV w.heap.size 20)) X.o).trans f.o.crops
    have a7:=yb (G.o.crops.up r.o)
    have bd:Hid (GV w4):=yb (F.o.below r.o F.o.1)
    cases g:(x.crops.map (·.name)).all Au with
    |false=>
     have D:=yb g
     clear g
     refine A9 (A4 ?_)
     go_wp2_with (first|(go_at_call 49;refine (K2 (KL a7.o bd.o) D.o).mono ?_;rintro e w5 ⟨rfl,M⟩;have q:=yb (r.o.trans (M.mono r.o.size));clear M))
     exact d.o _ _ ⟨rfl,rfl⟩ q.o (by unfold Cx;rw[D.o];simp)
    |true=>
     have D:=yb g
     clear g
     refine A9 (A4 ?_)
     go_wp2_with (first|(go_at_call 49;refine (Hf (KL a7.o bd.o) D.o).mono ?_;rintro e w5 ⟨rfl,M⟩;have q:=yb (r.o.trans (M.mono r.o.size));clear M))
     clear C
     have C:w5.cell? (aV w.heap.size 21)=some (.slice L.reaches.a L.reaches.n L.reaches.c):=(q.o.cell (p:=(aV w.heap.size 21)) X.o).trans f.o.reaches
     have aa:=yb (G.o.reaches.up q.o)
     have d6:Hid (GV w5):=yb (F.o.below q.o F.o.1)
     cases g:(x.reaches.map (·.name)).all Au with
     |false=>
      have E:=yb g
      clear g
      refine A9 (A4 ?_)
      go_wp2_with (first|(go_at_call 51;refine (K2 (JQ aa.o d6.o) E.o).mono ?_;rintro e w6 ⟨rfl,K⟩;have m:=yb (q.o.trans (K.mono q.o.size));clear K))
      exact d.o _ _ ⟨rfl,rfl⟩ m.o (by unfold Cx;rw[E.o];simp)
     |true=>
      have E:=yb g
      clear g
      refine A9 (A4 ?_)
      go_wp2_with (first|(go_at_call 51;refine (Hf (JQ aa.o d6.o) E.o).mono ?_;rintro e w6 ⟨rfl,K⟩;have m:=yb (q.o.trans (K.mono q.o.size));clear K))
      clear C
      have C:w6.cell? (aV w.heap.size 22)=some (.slice L.farms.a L.farms.n L.farms.c):=(m.o.cell (p:=(aV w.heap.size 22)) X.o).trans f.o.farms
      have ab:=yb (G.o.farms.up m.o)
      have bb:Hid (GV w6):=yb (F.o.below m.o F.o.1)
      cases g:(x.farms.map (·.name)).all Au with
      |false=>
       have t:=yb g
       clear g
       refine A9 (A4 ?_)
       go_wp2_with (first|(go_at_call 53;refine (K2 (KM ab.o bb.o) t.o).mono ?_;rintro e w7 ⟨rfl,W⟩;have l:=yb (m.o.trans (W.mono m.o.size));clear W))
       exact d.o _ _ ⟨rfl,rfl⟩ l.o (by unfold Cx;rw[t.o];simp)
      |true=>
       have t:=yb g
       clear g
       refine A9 (A4 ?_)
       go_wp2_with (first|(go_at_call 53;refine (Hf (KM ab.o bb.o) t.o).mono ?_;rintro e w7 ⟨rfl,W⟩;have l:=yb (m.o.trans (W.mono m.o.size));clear W))
       clear C
       have C:w7.cell? (aV w.heap.size 23)=some (.slice L.rots.a L.rots.n L.rots.c):=(l.o.cell (p:=(aV w.heap.size 23)) X.o).trans f.o.rots
       have a6:=yb (G.o.rots.up l.o)
       have ay:Hid (GV w7):=yb (F.o.below l.o F.o.1)
       cases g:(x.rots.map (·.name)).all Au with
       |false=>
        have v:=yb g
        clear g
        refine A9 (A4 ?_)
        go_wp2_with (first|(go_at_call 55;refine (K2 (Mt a6.o ay.o) v.o).mono ?_;rintro e w8 ⟨rfl,O⟩;have j:=yb (l.o.trans (O.mono l.o.size));clear O))
        exact d.o _ _ ⟨rfl,rfl⟩ j.o (by unfold Cx;rw[v.o];simp)
       |true=>
        have v:=yb g
        clear g
        refine A9 (A4 ?_)
        go_wp2_with (first|(go_at_call 55;refine (Hf (Mt a6.o ay.o) v.o).mono ?_;rintro e w8 ⟨rfl,O⟩;have j:=yb (l.o.trans (O.mono l.o.size));clear O))
        clear C
        have C:w8.cell? (aV w.heap.size 24)=some (.slice L.rights.a L.rights.n L.rights.c):=(j.o.cell (p:=(aV w.heap.size 24)) X.o).trans f.o.rights
        have Z:=yb (G.o.rights.up j.o)
        have ce:Hid (GV w8):=yb (F.o.below j.o F.o.1)
        cases g:(x.rights.map (·.name)).all Au with
        |false=>
         have y:=yb g
         clear g
         refine A9 (A4 ?_)
         go_wp2_with (first|(go_at_call 57;refine (K2 (JR Z.o ce.o) y.o).mono ?_;rintro e w9 ⟨rfl,H⟩;have i:=yb (j.o.trans (H.mono j.o.size));clear H))
         exact d.o _ _ ⟨rfl,rfl⟩ i.o (by unfold Cx;rw[y.o];simp)
        |true=>
         have y:=yb g
         clear g
         refine A9 (A4 ?_)
         go_wp2_with (first|(go_at_call 57;refine (Hf (JR Z.o ce.o) y.o).mono ?_;rintro e w9 ⟨rfl,H⟩;have i:=yb (j.o.trans (H.mono j.o.size));clear H))
         clear C
         have C:w9.cell? (aV w.heap.size 25)=some (.slice L.duties.a L.duties.n L.duties.c):=(i.o.cell (p:=(aV w.heap.size 25)) X.o).trans f.o.duties
         have a2:=yb (G.o.duties.up i.o)
         have cd:Hid (GV w9):=yb (F.o.below i.o F.o.1)
         cases g:(x.duties.map (·.name)).all Au with
         |false=>
          have z:=yb g
          clear g
          refine A9 (A4 ?_)
          go_wp2_with (first|(go_at_call 59;refine (K2 (KN a2.o cd.o) z.o).mono ?_;rintro e f1 ⟨rfl,u⟩;have U:=yb (i.o.trans (u.mono i.o.size));clear u))
          exact d.o _ _ ⟨rfl,rfl⟩ U.o (by unfold Cx;rw[z.o];simp)
         |true=>
          have z:=yb g
          clear g
          refine A9 (A4 ?_)
          go_wp2_with (first|(go_at_call 59;refine (Hf (KN a2.o cd.o) z.o).mono ?_;rintro e f1 ⟨rfl,u⟩;have U:=yb (i.o.trans (u.mono i.o.size));clear u))
          clear C
          have hn:Cx x=true:=by
           unfold Cx
           rw[B.o,A.o,D.o,E.o,t.o,v.o,y.o,z.o]
           rfl
          exact X7 HQ.o (HP.o.up (U.o.mono HP.o.size)) HF.o (by unfold AF;rw[HF.o,hn];rfl) _ _ _ _ _ _ _ _ _ _ _ _ _ _ _ _ _ _ _ _ _ _ _ _ _ _ _ _ _ _ _ _ _ _ _ _ _ _ _ _ _ _ _ _ _ _ _ _ _ _ _ _ _ _ _ _ _ _ _ _ _ _ _ _ _ _ _ _ _ _ _ _ _ _ _ _ _ _ _ _ _ _ _ _ _ _ _ _ _ _ _ _ _ _ _ _ _ _ _ _ _ _ _ _ _ _ _ _ _ _ _ _ _ _ _ _ _ _ _ _ _ _ _ _ _ _ _ _ _ _ _ _ _ _ _ _ _ _ _ _ _ _ _ _ _ _ _ _ _ _ _ _ _ _ _ _ _ _ _ _ _ _ _ _ _ _ _ _ _ _ _
def Xw(w:World)(cs:LV):World:=((w.alloc (.cells cs.toArray 35)).alloc (.cells Dj.toArray 35)).alloc (.cells #[.int .i64 0] 40)
theorem Vn{w:World}{x:Ar}{L:Bt}{cs:LV}{N:NP}(h:BH N w L cs x)(hN:∀b,N b->b < w.heap.size)(a:Kf x):GA w x L cs N (Xw w cs):=by
 unfold Xw
 refine ⟨⟨(((yg _ _).alloc (yf _) _).alloc (by simp) _).alloc (by simp;omega) _,⟨Dj.toArray,rfl,?_⟩,⟨iV 0,?_⟩⟩,?_,h,hN,a⟩
 ·rw[yA _ _ _ (by simp)]
  have:=World.alloc_heap_new (w.alloc (.cells cs.toArray 35)) (.cells Dj.toArray 35)
  rwa [z6] at this
 ·have:=World.alloc_heap_new ((w.alloc (.cells cs.toArray 35)).alloc (.cells Dj.toArray 35)) (.cells jk 40)
  rwa [z6,z6] at this
 ·rw[yA _ _ _ (by simp;omega),yA _ _ _ (by simp)]
  exact World.alloc_heap_new _ _
theorem OP{w:World}{x:Ar}{L:Bt}{cs:LV}{N:NP}(h:BH N w L cs x)(hN:∀b,N b->b < w.heap.size)(a:Kf x)(d:GV w)(hd:∀e∈As x,At e.1<=1000000):
  Calls Tryz.prog 32 #[.agg cs.toArray] w (J2 w x):=by
 have l:∀(fn:Fn) (first cap:Array Value) (w:World),(Instr.makeFunc fn first cap).run Tryz.prog w=.ok (.func fn first cap) w:=fun _ _ _ _=>rfl
 have c:=yb (Vn h hN a)
 have i:Hid (GV (Xw w cs)):=yb (d.below c.o.amid.below d.1)
 have p:=yb hd
 obtain ⟨c0,c1,c2,rfl,j,g1,g⟩:=h.cells
 obtain ⟨t,s,rfl,k⟩:=j.cells
 obtain ⟨a1,y,rfl,q⟩:=g1.cells
 obtain ⟨u,z,rfl,r⟩:=g.cells
 clear h hN a d hd j g1 g k q r
 unfold Aw.v at*
 simp only[yK,yQ] at c i ⊢
 refine Bg (n:=10) Tryz.func32 rfl ?_
 have f:=TW w x
 generalize bodyPostM Fence.wide 10 Tryz.prog Tryz.f32 (J2 w x)=Q at f ⊢
 have m:=yb f
 clear f
 simp only[Tryz.ntmps32,yM,yz,yH,Nat.reduceAdd,Nat.reduceSub,zD,zE,zR,zK,yQ,yK]
 iterate 2
  refine A9 (A4 ?_)
  go_wp2
 exact X8 m.o c.o i.o p.o _ _ _ _ _ _ _ _ _ _ _ _ _ _ _ _ _ _ _ _ _ _ _ _ _ _ _ _ _ _ _ _ _ _ _ _ _ _ _ _ _ _ _ _ _ _ _ _ _ _ _ _ _ _ _ _ _ _ _ _ _ _ _ _ _ _ _ _ _ _ _ _ _ _ _ _ _ _ _ _ _ _ _ _ _ _ _ _ _ _ _ _ _ _ _ _ _ _ _ _ _ _ _ _ _ _ _ _ _ _ _ _ _ _ _ _ _ _ _ _ _ _ _ _ _ _ _ _ _ _ _ _ _ _ _ _ _ _ _ _ _ _ _ _ _ _ _ _ _ _ _ _ _ _ _ _ _ _ _ _ _ _ _ _ _ _ _ _ _ _ _
theorem Mh{fn:Func}{t u:Tmp}{ty:TypeId}{tmps:Array Value}{P:Program}{w:World}{p:Addr}{v:Value}(h:fn.results=#[.cell t ty,.tmp u])(a:tmps.getD t undef=.pointer (some p))(b:(loadVar ty p).run P w=.ok v w):(results fn tmps).run P w=.ok (.tuple #[v,tmps.getD u undef]) w:=by
 rw[yB] at a
 simp[results,h,a,asAddr,b]
def GF(F:NP)(W:World)(b:Nat):Prop:=¬ F b∧b < W.heap.size
def CG(F:NP)(W W':World):Prop:=W.heap.size<=W'.heap.size∧∀b,b < W.heap.size->¬ F b->W'.heap[b]?=W.heap[b]?
theorem CG.refl(F:NP)(W:World):CG F W W:=⟨yf _,fun _ _ _=>rfl⟩
theorem CG.trans{F:NP}{a b c:World}(h:CG F a b)(k:CG F b c):CG F a c:=⟨yu h.1 k.1,fun i hi d=>(k.2 i (yt hi h.1) d).trans (h.2 i hi d)⟩
theorem CG.below{F:NP}{W W':World}(h:Below W.heap.size W W'):CG F W W':=⟨h.size,fun b hb _=>h.block b hb⟩
theorem CG.wide{F F':NP}{W W':World}(h:CG F W W')(c:∀b,b < W.heap.size->F b->F' b):CG F' W W':=⟨h.1,fun b hb a=>h.2 b hb (fun k=>a (c b hb k))⟩
theorem GF.up{F F':NP}{W W':World}(hs:W.heap.size<=W'.heap.size)(a:∀b,F' b->F b∨W.heap.size<=b){b:Nat}(h:GF F W b):GF F' W' b:=
 ⟨fun k=>(a b k).elim h.1 (fun hb=>absurd h.2 (Nat.not_lt.2 hb)),yt h.2 hs⟩
theorem AI.flux{F F':NP}{W W':World}{e:Ex}{cs:LV}(h:AI (GF F W) W e cs)(a:CG F W W')(c:∀b,F' b->F b∨W.heap.size<=b):AI (GF F' W') W' e cs:=
 h.same (fun _ hb=>hb.up a.1 c) (fun b hb=>a.2 b hb.2 hb.1)
theorem AI.flux'{F:NP}{W W':World}{e:Ex}{cs:LV}(h:AI (GF F W) W e cs)(a:CG F W W'):AI (GF F W') W' e cs:=h.flux a (fun _ k=>.inl k)
structure D3 (W W':World) (b:Nat) (c:List Value) (t:TypeId):Prop where
 os:W'.os=W.os
 tape:W'.tape=W.tape
 output:W'.output=W.output
 size:W'.heap.size=W.heap.size
 row:W'.heap[b]?=some (.cells c.toArray t (0,0))
 block:∀k,k≠b->W'.heap[k]?=W.heap[k]?
theorem D3.below{W W':World}{b:Nat}{c:LV}{t:TypeId}(h:D3 W W' b c t){B:Nat}{a:World}(d:Below B a W)(hb:B<=b):Below B a W':=
 d.trans ⟨h.os,h.tape,h.output,by rw[h.size];exact yf _,fun k e=>h.block k (by omega)⟩
theorem D3.flux{W W':World}{b:Nat}{c:LV}{t:TypeId}(h:D3 W W' b c t){F:NP}(d:F b):CG F W W':=⟨by rw[h.size];exact yf _,fun k _ a=>h.block k (fun e=>a (e▸d))⟩
theorem Ax{W:World}{b:Nat}{c:LV}{t:TypeId}{fr:Nat × Nat}(h:W.heap[b]?=some (.cells c.toArray t fr)):W.rangeAt b 0 c:=fun j v a=>by
 simp only[World.cell?,h,yy];simpa using a
theorem Jz{W:World}{b o n:Nat}{c:LV}{t:TypeId}(h:W.heap[b]?=some (.cells c.toArray t (0,0)))(a:o+n<=c.length):W.there b o n:=fun j d=>by
 constructor
 ·simp only[World.cell?,h]
  simp;omega
 ·simp[World.frozen?,h]
theorem AA(b:Nat)(t:TypeId):∀(e:LV) (o:Nat) (w:World) (p m q:LV),w.heap[b]?=some (.cells (p++(m++q)).toArray t (0,0))->p.length=o->m.length=e.length->D3 w (w.setCells b o e) b (p++(e++q)) t
 |[],o,w,p,m,q,h,c,hm=>by
  obtain rfl:m=[]:=zv.1 hm
  exact ⟨rfl,rfl,rfl,rfl,h,fun _ _=>rfl⟩
 |v::r,o,w,p,[],q,h,c,hm=>by simp at hm
 |v::r,o,w,p,x::m,q,h,c,hm=>by
  rw[World.setCells]
  have a:D3 w (w.setCell ⟨b,o,none⟩ v) b ((p++[v])++(m++q)) t:=by
   refine ⟨rfl,rfl,rfl,by simp[World.setCell],?_,fun k d=>xM w (aV b o) v k d⟩
   simp only[World.setCell,yL,h,zU]
   simp only[xx,yZ]
   congr 1
   subst c
   simp
  have hr:=AA b t r (o+1) (w.setCell (aV b o) v) (p++[v]) m q a.row (by simp[c]) (by simpa using hm)
  refine ⟨hr.os.trans a.os,hr.tape.trans a.tape,hr.output.trans a.output,hr.size.trans a.size,?_,fun k d=>(hr.block k d).trans (a.block k d)⟩
  have:=hr.row
  simpa using this
theorem Ki{ops:Array Oper}{rest:List Oper}{op:Oper}{a:Act}{w:World}{Q:QT}(d:op.guard=none)(ty:TypeId)(x y:Operand)(e:op.op=.store ty x y)
 (b o:Nat)(g:a.eval x=.pointer (some ⟨b,o,none⟩))(c:LV)(i:a.eval y=.agg c.toArray){p m q:LV}{t:TypeId}(hb:w.heap[b]?=some (.cells (p++(m++q)).toArray t (0,0)))(f:p.length=o)(j:m.length=c.length)
 (hi:(Tryz.prog.info? ty).map (·.size)=some c.length)(h1:∀v∈c,v.oneCell'=true)
 (h:∀W',D3 w W' b (p++(c++q)) t->wpList Tryz.prog ops Q rest (a.put op.dst undef) W'):wpList Tryz.prog ops Q (op::rest) a w:=by
 refine wpList_store_mid d ty x y e b o c.toArray g i (Jz hb (by simp;omega)) (by rw[yM];exact hi) (zb h1) ?_
 exact h _ (AA b t c o w p m q hb f j)
theorem A3{fn:Func}{t u:Tmp}{ty:TypeId}{R:Ending->World->Prop}{tm:Array Value}{W:World}{b:Nat}{c:LV}{d:TypeDesc}{a:TypeId}(h:fn.results=#[.cell t ty,.tmp u])(e:tm.getD t undef=.pointer (some ⟨b,0,none⟩))(hr:W.heap[b]?=some (.cells c.toArray a (0,0)))
 (g:Tryz.prog.underlying ty=some d)(hd:d.isRow=true)(hi:(Tryz.prog.info? ty).map (·.size)=some c.length)(f:R (.returned (.tuple #[.agg c.toArray,tm.getD u undef])) W):bodyPost Tryz.prog fn R .ret {tmps:=tm,defers:=[]} W:=
 zw (Mh h e (run_loadVar_mid _ b 0 ty c d (Ax hr) g hd hi)) rfl f
theorem Bl{fn:Func}{t:Tmp}{ty:TypeId}{R:Ending->World->Prop}{tm:Array Value}{W:World}{b:Nat}{c:LV}{d:TypeDesc}{a:TypeId}(h:fn.results=#[.cell t ty])(e:tm.getD t undef=.pointer (some ⟨b,0,none⟩))(hr:W.heap[b]?=some (.cells c.toArray a (0,0)))
 (g:Tryz.prog.underlying ty=some d)(hd:d.isRow=true)(hi:(Tryz.prog.info? ty).map (·.size)=some c.length)(f:R (.returned (.agg c.toArray)) W):bodyPost Tryz.prog fn R .ret {tmps:=tm,defers:=[]} W:=by
 refine zw ?_ rfl f
 have h2:(loadVar ty (aV b 0)).run Tryz.prog W=.ok (.agg c.toArray) W:=run_loadVar_mid _ b 0 ty c d (Ax hr) g hd hi
 rw[yB] at e
 simp[results,h,e,asAddr,h2]
theorem Es{ty:TypeId}{w:World}{p:Addr}{v:Value}{d:TypeDesc}(c:Tryz.prog.underlying ty=some d)(hd:d.isRow=false)(a:w.cell? p=some v):(loadVar ty p).run Tryz.prog w=.ok v w:=by
 have b:(isAgg ty).run Tryz.prog w=.ok false w:=by
  unfold isAgg
  rw[xj,qj c w]
  cases d<;>simp_all[TypeDesc.isRow]
 simp[loadVar,xj,b,a]
theorem FZ{fn:Func}{t:Tmp}{ty:TypeId}{tmps:Array Value}{P:Program}{w:World}{p:Addr}{v:Value}(h:fn.results=#[.cell t ty])(a:tmps.getD t undef=.pointer (some p))(b:(loadVar ty p).run P w=.ok v w):(results fn tmps).run P w=.ok v w:=by
 rw[yB] at a
 simp[results,h,a,asAddr,b]
theorem Ab{P:Program}{x y:Code}{Q:QT}{a:Act}{w:World}(h:∀K:Act->World->Prop,Hid (∀a w,Code.wp P y Q a w->K a w)->Code.wp P x (Exit.then K Q) a w):Code.wp P (x.seq y) Q a w:=wp_seq (h _ (yb fun _ _ h=>h))
end Go.Proofs.YtjofgpfocadomaaGreatDoor
namespace Go.Proofs.YtjofgpfocadomaaGreatDoor
open Go.RowKit
set_option linter.unusedSimpArgs false
attribute [local go_sem] Oper.semAt_some
def U5(r:Nat):Array Value:=#[.int .u64 (r:Int)]
theorem OS{a b:Nat}(d:a≠0)(c:a % max b 1=0):Ec a b=[a,b]:=by
 rw[Ec,yq d]
 by_cases hb:b=0
 ·rw[dif_pos hb,hb]
 ·rw[dif_neg hb,yw]
  rwa [Nat.max_eq_left (by omega)] at c
theorem MU{a b:Nat}(d:a≠0)(c:a % max b 1≠0):Ec a b=a::Ec b (a % max b 1)∧a % max b 1 < b:=by
 by_cases hb:b=0
 ·rw[hb] at c;simp at c;omega
 ·have e:max b 1=b:=Nat.max_eq_left (by omega)
  rw[e] at c ⊢
  refine ⟨?_,Nat.mod_lt _ (by omega)⟩
  rw[Ec,yq d,dif_neg hb,yq c]
def M7(W:World)(B a:Nat):Prop:=W.heap[B]?=some (.cells #[.int .u64 (a:Int)] 73 (0,0))
theorem M7.cell{W:World}{B a:Nat}(h:M7 W B a):W.cell? ⟨B,0,none⟩=some (.int .u64 (a:Int)):=by
 unfold M7 at h;simp[World.cell?,h]
theorem M7.free{W:World}{B a:Nat}(h:M7 W B a):W.frozen? ⟨B,0,none⟩=false:=by
 unfold M7 at h;simp[World.frozen?,h]
theorem B8{W:World}{B:Nat}{u v:Value}{t:TypeId}(h:W.heap[B]?=some (.cells #[u] t (0,0))):(W.setCell ⟨B,0,none⟩ v).heap[B]?=some (.cells #[v] t (0,0)):=by
 simp[World.setCell,yL,h]
theorem Ae(W:World){B c:Nat}(v:Value)(h:c≠B):(W.setCell ⟨B,0,none⟩ v).heap[c]?=W.heap[c]?:=by
 have:¬ B=c:=fun e=>h e.symm
 simp[World.setCell,yL,this]
theorem M7.same{O:NP}{W W':World}{B a:Nat}(h:M7 W B a)(hs:AN O W W')(hb:O B):M7 W' B a:=(hs.2 B hb).trans h
def X9(xs:List Nat)(e d:Nat)(J:Nat->NP->World->Prop)(f:World)(k a b:Nat)(W:World):Prop:=
 xs.drop k=Ec a b∧k<=xs.length∧J k (fun c=>c=e∨c=d) W∧f.heap.size<=W.heap.size∧M7 W e a∧M7 W d b∧(a:Int) < 18446744073709551616∧(b:Int) < 18446744073709551616
theorem U6(n:Nat)(hn:1<=n)(f d a b:Nat)(X:f≠d)(Y:(a:Int) < 18446744073709551616)(O:(b:Int) < 18446744073709551616)(w0:World)(u:M7 w0 f a)(hb:M7 w0 d b):
  WU Fence.wide n Tryz.prog 78 #[.pointer (some ⟨f,0,none⟩),.pointer (some ⟨d,0,none⟩)] (fun c=>c=f∨c=d) w0 (fun _=>True) ((Ec a b).map U5) none:=by
 intro l J Jx Jp W hJ T _ an al _ i a0 G h0
 obtain ⟨xs,C⟩:∃xs,xs=Ec a b:=⟨_,rfl⟩
 have HR:=yb i
 have a7:=yb hJ
 have ao:=yb T
 have H0:Hid (X9 xs f d J W 0 a b W):=yb ⟨by rw[C];rfl,yI _,h0,yf _,u.same G (.inl rfl),hb.same G (.inr rfl),Y,O⟩
 have HK:=yb a0
 rw[<-C] at HR ⊢
 simp only[yV] at*
 clear i hJ T h0 u hb a0 G Y O C
 refine yY.2 ?_
 go_enter Tryz.func78,Tryz.ntmps78
 go_wp2
 go_loopw [] (fun wr=>∃k a b:Nat,Hid (X9 xs f d J W k a b wr)) (fun wr=>match wr.cell? (aV d 0) with|some v=>(intOf v).toNat|none=>0)
 case atStart=>exact ⟨0,a,b,H0⟩
 case round=>
  obtain ⟨k,a,b,g⟩:=hrel
  have ca:=g.o.2.2.2.2.1.cell
  have cb:=g.o.2.2.2.2.2.1.cell
  by_cases u:a=0
  ·subst u
   go_wp2
   have K:k=xs.length:=by
    have h:=g.o.1
    rw[Ec,yw rfl] at h
    have:=List.drop_eq_nil_iff.1 h
    have:=g.o.2.1
    omega
   refine bodyPost_end (zs rfl _ _ _) rfl (.inl ⟨⟨_,rfl⟩,.inl ⟨trivial,(fun c=>c=f∨c=d),?_⟩⟩)
   have h2:=g.o.2.2.1
   rwa [K] at h2
  ·have ap:((a:Int) !=0)=true:=by simpa using u
   have hdr:=g.o.1
   have K:k < xs.length:=by
    have:=g.o.2.1
    have h3:xs.drop k≠ []:=by rw[hdr];exact RH u
    have:¬ xs.length<=k:=fun h=>h3 (List.drop_eq_nil_iff.2 h)
    omega
   have q:(xs.map U5)[k]'(by simpa using K)=#[.int .u64 (a:Int)]:=by
    have V:=xb K
    have e2:xs[k]=a:=by
     rw[hdr] at V
     by_cases x:a % max b 1=0
     ·rw[OS u x] at V;exact (zT V).1.symm
     ·rw[(MU u x).1] at V;exact (zT V).1.symm
    rw[zH,e2];rfl
   obtain ⟨aj,z,j,B,I,s⟩:=HR.o k K (fun c=>c=f∨c=d) wr g.o.2.2.1 g.o.2.2.2.1 (fun c w=>⟨.inl w,by have:=HK.o c w;have:=g.o.2.2.2.1;omega⟩)
   rw[q] at I
   have ak:=yb s
   clear s q hdr
   go_upto_region 0 with fail
   refine (qm (n:=n)).1 ?_
   gi_wp2
   refine ak.o.mono ?_
   rintro e t (⟨rfl,S,hs⟩|⟨rfl,Z,hs⟩|⟨ch,rfl,hp,hs⟩)
   rotate_left
   ·have ah:=yb Z
    clear Z hs I
    gi_wp2
    go_wp2
    exact bodyPost_end (zs rfl _ _ _) rfl (.inl ⟨⟨_,rfl⟩,.inr ⟨_,ah.o⟩⟩)
   ·exact ⟨rfl,.inr ⟨ch,rfl,_,hp⟩⟩
   clear I ca cb
   have ag:=yb S
   have ab:=yb hs
   have HA:=yb (g.o.2.2.2.2.1.same hs (.inl rfl))
   have HB:=yb (g.o.2.2.2.2.2.1.same hs (.inr rfl))
   have ca:=HA.o.cell
   have cb:=HB.o.cell
   have fa:=HA.o.free
   have fb:=HB.o.free
   clear S hs
   gi_wp2
   go_wp2
   have aa:(if (b:Int) < 1 then (1:Int) else b)=((max b 1:Nat):Int):=by split<;>omega
   obtain ⟨m,x⟩:∃m,m=max b 1:=⟨_,rfl⟩
   have aq:((m:Int)==0)=false:=by simp;omega
   rw[<-x] at aa
   have am:max (b:Int) 1=(m:Int):=by omega
   have p:∀(c:Nat) (o:Obj),(((t.setCell (aV f 0) (.int .u64 (b:Int))).setCell (aV d 0) (.int .u64 ((a:Int) % (m:Int)))).heap[c]?=some o->(((t.setCell (aV f 0) (.int .u64 (b:Int))).setCell (aV d 0) (.int .u64 ((a:Int) % (m:Int)))).drew).heap[c]?=some o):=fun _ _ h=>h
   have y:Hid (M7 (((t.setCell (aV f 0) (.int .u64 (b:Int))).setCell (aV d 0) (.int .u64 ((a:Int) % (m:Int)))).drew) d (a % m)):=yb (by
    have:=B8 (v:=.int .u64 ((a:Int) % (m:Int))) ((Ae t (.int .u64 (b:Int)) (fun e=>X e.symm)).trans HB.o)
    rw[M7,p _ _ this];simp)
   have D:Hid (M7 (((t.setCell (aV f 0) (.int .u64 (b:Int))).setCell (aV d 0) (.int .u64 ((a:Int) % (m:Int)))).drew) f b):=yb (p _ _ ((Ae _ _ X).trans (B8 HA.o)))
   have E:(((t.setCell (aV f 0) (.int .u64 (b:Int))).setCell (aV d 0) (.int .u64 ((a:Int) % (m:Int)))).drew).heap.size=t.heap.size:=by simp
   have H:Hid (J (k+1) (fun c=>c=f∨c=d) (((t.setCell (aV f 0) (.int .u64 (b:Int))).setCell (aV d 0) (.int .u64 ((a:Int) % (m:Int)))).drew)):=yb (a7.o _ _ _ _ _ ag.o (Nat.le_of_eq E.symm) rfl rfl rfl (fun c w _=>by
    have h1:c≠f:=fun e=>w (.inl e)
    have h2:c≠d:=fun e=>w (.inr e)
    exact (Ae _ _ h2).trans (Ae _ _ h1)) (fun c w=>.inl w))
   have N:W.heap.size<=t.heap.size:=yu g.o.2.2.2.1 ab.o.1
   generalize U:(((t.setCell (aV f 0) (.int .u64 (b:Int))).setCell (aV d 0) (.int .u64 ((a:Int) % (m:Int)))).drew)=W4 at D y H E
   have F:Hid (W.heap.size<=W4.heap.size):=yb (by omega)
   have af:Hid (∀c,(c=f∨c=d)->((c=f∨c=d)∨W.heap.size<=c)∧c < W4.heap.size):=yb (fun c w=>⟨.inl w,by have:=HK.o c w;have:=F.o;omega⟩)
   clear E N p
   have HM:=yb x
   have M:((a:Int) % (m:Int))=((a % m:Nat):Int):=by simp
   have P:=yb M
   clear M
   by_cases L:a % m=0
   ·have ad:((a:Int) % (m:Int)==0)=true:=by
     rw[P.o,L];rfl
    rw[x] at L
    have hdr:=g.o.1
    rw[OS u L] at hdr
    have R:xs.length=k+2:=by
     have:=yD List.length hdr
     simp at this;omega
    have q:(xs.map U5)[k+1]'(by simp;omega)=#[.int .u64 (b:Int)]:=by
     have e2:xs[k+1]'(by omega)=b:=by
      have:=yD (fun l=>l[1]?) hdr
      simp[List.getElem?_drop] at this
      rw[yk (by omega)] at this
      exact yi this
     rw[zH,e2];rfl
    obtain ⟨aj,z,j,B,I,s⟩:=HR.o (k+1) (by omega) (fun c=>c=f∨c=d) W4 H.o F.o af.o
    rw[q] at I
    have a2:=yb s
    have ac:=yb R
    have Q:=y.o.cell
    have ar:=D.o.cell
    clear s q hdr R L x
    go_region
    clear U
    go_upto_region 3 with fail
    refine (qm (n:=n)).1 ?_
    gi_wp2
    refine a2.o.mono ?_
    rintro e W5 (⟨rfl,S,hs⟩|⟨rfl,Z,hs⟩|⟨ch,rfl,hp,hs⟩)
    ·have ae:=yb S
     clear S hs I
     gi_wp2
     go_wp2
     refine zw (zs rfl _ _ _) rfl (.inl ⟨⟨_,rfl⟩,.inl ⟨trivial,(fun c=>c=f∨c=d),?_⟩⟩)
     have:=ae.o
     rwa [show k+1+1=xs.length by have:=ac.o;omega] at this
    ·have a8:=yb Z
     clear Z hs I
     gi_wp2
     go_wp2
     exact zw (zs rfl _ _ _) rfl (.inl ⟨⟨_,rfl⟩,.inr ⟨_,a8.o⟩⟩)
    ·exact ⟨rfl,.inr ⟨ch,rfl,_,hp⟩⟩
   ·have ad:((a:Int) % (m:Int)==0)=false:=by
     rw[P.o];simp;omega
    have HZ:Hid (¬ a % max b 1=0):=yb (by rw[<-x];exact L)
    have Q:=y.o.cell
    clear L x
    go_region
    clear U
    go_wp2
    have A:=MU u HZ.o
    have a6:W4.cell? (aV d 0)=some (.int .u64 ((a % max b 1:Nat):Int)):=by rw[<-HM.o];exact Q
    have ai:=g.o.2.2.2.2.2.1.cell
    refine ⟨⟨k+1,b,a % max b 1,yb ⟨?_,by have:=g.o.2.1;omega,H.o,F.o,D.o,by rw[<-HM.o];exact y.o,g.o.2.2.2.2.2.2.2,?_⟩⟩,?_⟩
    ·have h1:=g.o.1
     rw[A.1,xb K] at h1
     exact (zT h1).2
    ·have:=g.o.2.2.2.2.2.2.2
     have:=A.2
     omega
    ·rw[a6,ai]
     have:=A.2
     generalize a % max b 1=r at this ⊢
     show (r:Int).toNat < (b:Int).toNat
     omega
end Go.Proofs.YtjofgpfocadomaaGreatDoor
namespace Go.Proofs.YtjofgpfocadomaaGreatDoor
open Go.RowKit
set_option linter.unusedSimpArgs false
attribute [local go_sem] Oper.semAt_some
theorem Lk(a b:Int)(w:World):Calls Tryz.prog 41 #[.int .u64 a,.int .u64 b] w fun e w'=>e=.returned (.func (.func 78) #[] #[.pointer (some ⟨w.heap.size,0,none⟩),.pointer (some ⟨w.heap.size+1,0,none⟩)])∧w'=(w.alloc (.cells #[.int .u64 a] 73)).alloc (.cells #[.int .u64 b] 73):=by
 have c:∀(fn:Fn) (first cap:Array Value) (w:World),(Instr.makeFunc fn first cap).run Tryz.prog w=.ok (.func fn first cap) w:=fun _ _ _ _=>rfl
 go_enter Tryz.func41,Tryz.ntmps41
 go_wp2
 go_ret
 exact ⟨rfl,rfl⟩
theorem Ll(d:Nat):∀(l:List Nat) (k:Nat) (h:k < l.length),Iu d (l.take (k+1))=l[k]
 |[],k,h=>absurd h (by simp)
 |x::r,0,_=>rfl
 |x::r,k+1,h=>by
  have a:k < r.length:=by simpa using h
  show Iu x (r.take (k+1))=r[k]
  rw[OR (by cases r with|nil=>simp at a|cons y s=>simp) x d]
  exact Ll d r k a
def DJ(g:Nat)(w:World)(d:Nat)(xs:List Nat)(k:Nat)(O:NP)(W:World):Prop:=(∀b,O b->g < b)∧Below g w W∧g < W.heap.size∧M7 W g (Iu d (xs.take k))
theorem DJ.stays{g:Nat}{w:World}{d:Nat}{xs:List Nat}:Cd (DJ g w d xs):=by
 intro k O W p W' e l j f c a i
 have o:=e.2.2.1
 have m:∀b,b<=g->¬ O b:=fun b hb n=>by have:=e.1 b n;omega
 refine ⟨fun b hb=>(i b hb).elim (e.1 b) (fun h=>by omega),e.2.1.trans ⟨j,f,c,l,fun b hb=>a b (m b (by omega)) (by omega)⟩,by omega,(a g (m g (yf _)) o).trans e.2.2.2⟩
theorem K3(a b:Nat)(q:(a:Int) < 18446744073709551616)(p:(b:Int) < 18446744073709551616)(w:World):
  Calls Tryz.prog 29 #[.int .u64 a,.int .u64 b] w fun e w'=>e=.returned (.int .u64 (Nat.gcd a b:Int))∧Below w.heap.size w w':=by
 by_cases hb:b=0
 ·subst hb
  go_enter Tryz.func29,Tryz.ntmps29
  go_wp2
  refine zw (FZ rfl rfl (Es jb rfl ?_)) rfl ⟨rfl,?_⟩
  ·rw[Nat.gcd_zero_right]
   simp only[World.cell?,World.alloc_heap_new]
   simp
  ·exact (yg _ _).alloc (yf _) _
 have Y:((b:Int)==0)=false:=by simpa using hb
 have C:=yb q
 have E:=yb p
 have HB:=yb hb
 clear q p hb
 refine Bg (n:=10) Tryz.func29 rfl ?_
 simp only[Tryz.ntmps29,yM,yz,yH,Nat.reduceAdd,Nat.reduceSub,zD,zE,zR,zK,yQ,yK]
 iterate 3
  refine A9 (A4 ?_)
  go_wp2
 refine A9 ?_
 refine A9 (A4 ?_)
 go_wp2_with (first|(go_at_call 41;refine (Lk _ _ _).mono ?_;rintro e w2 ⟨rfl,rfl⟩))
 refine De ?_
 have Q:Hid (∀W,W=((w.alloc (.cells #[.int .u64 (b:Int)] 73)).alloc (.cells #[.int .u64 (a:Int)] 73)).alloc (.cells #[.int .u64 (b:Int)] 73)->M7 W w.heap.size b∧M7 W (w.heap.size+1) a∧M7 W (w.heap.size+1+1) b∧Below w.heap.size w W∧W.heap.size=w.heap.size+3):=yb (by
  rintro W rfl
  refine ⟨?_,?_,?_,(((yg _ _).alloc (yf _) _).alloc (by simp) _).alloc (by simp;omega) _,by simp⟩
  ·exact (yA _ _ _ (by simp;omega)).trans ((yA _ _ _ (by simp)).trans (World.alloc_heap_new w _))
  ·have:=World.alloc_heap_new (w.alloc (.cells #[.int .u64 (b:Int)] 73)) (.cells #[.int .u64 (a:Int)] 73)
   rw[z6] at this
   exact (yA _ _ _ (by simp)).trans this
  ·have:=World.alloc_heap_new ((w.alloc (.cells #[.int .u64 (b:Int)] 73)).alloc (.cells #[.int .u64 (a:Int)] 73)) (.cells #[.int .u64 (b:Int)] 73)
   rw[z6,z6] at this
   exact this)
 generalize s:((w.alloc (.cells #[.int .u64 (b:Int)] 73)).alloc (.cells #[.int .u64 (a:Int)] 73)).alloc (.cells #[.int .u64 (b:Int)] 73)=N
 obtain ⟨n0,n1,n2,y,M⟩:=Q.o N s.symm
 clear s Q
 generalize hg:w.heap.size=g at*
 have L:=yb y
 have B:=yb M
 clear y M
 refine O9 (n:=10) (K:=fun c=>c=g+1∨c=g+1+1) Tryz.func29 rfl (fun _ _=>rfl) (fun c j=>by have:=B.o;omega) (U6 9 (by omega) (g+1) (g+1+1) a b (by omega) C.o E.o N n1 n2) (fun x X=>by
   obtain ⟨r, -,rfl⟩:=xJ.1 X;rfl)
  (DJ g w b (Ec a b)) (fun _ _ _=>False) (fun _ _ _=>False)
  (fun k P O W=>DJ g w b (Ec a b) k O W∧∃t,P={tmps:=#[.int .u64 a,.int .u64 b,undef,undef,pV g 0,.int .u64 (((Ec a b).getD k 0:Nat):Int),.int .u64 b,.bool false,undef,.int .u64 b,.int .u64 a,.int .u64 b,.func (.func 78) #[] #[pV (g+1) 0,pV (g+1+1) 0],t,undef,undef],defers:=[]})
  DJ.stays (fun _ _ _ _ _ _ h=>h.elim) (fun _ _ _ _ _ _ h=>h.elim) (fun P k O W O' W' h h1 h2 h3 h4 Z h6=>⟨DJ.stays k O W O' W' h.1 h1 h2 h3 h4 Z h6,h.2⟩) (fun _ _ _ _=>trivial) (fun _ _ _ h=>h.elim) (fun _ h=>by cases h) ?_ ?_ ?_ ?_ (fun _ _ _ _ _ _ h=>h.elim) (fun _ _ _ _ _ _ h=>h.elim)
 ·refine ⟨fun c j=>by rcases j with rfl|rfl<;>omega,L.o,by have:=B.o;omega,?_⟩
  exact n0
 ·intro k A O W l i T F _
  have f:k < (Ec a b).length:=by simpa using A
  obtain ⟨r,h1,h2⟩:∃r:Nat,((Ec a b).map U5)[k]=#[.int .u64 (r:Int)]∧(Ec a b).getD k 0=r:=⟨(Ec a b)[k],by rw[zH];rfl,by simp[List.getD,f]⟩
  rw[h1,h2]
  have d:=yb i
  clear i T F h1 h2 A f
  gi_wp2
  first
  |exact ⟨AN.refl _ _,d.o,_,rfl⟩
  |(rename_i G;exact G _ _ ⟨AN.refl _ _,d.o,_,rfl⟩)
  |(rename_i G _;exact G _ _ ⟨AN.refl _ _,d.o,_,rfl⟩)
 ·rintro k A O W l a1 F v R ⟨i,t,rfl⟩
  have f:k < (Ec a b).length:=by simpa using A
  have hr:Iu b ((Ec a b).take (k+1))=(Ec a b).getD k 0:=by
   rw[Ll _ _ _ f];simp[List.getD,f]
  have V:=yb hr
  generalize (Ec a b).getD k 0=r at*
  have d:=yb i
  have j:=i.2.2.2.cell
  have S:=i.2.2.2.free
  clear i F v hr
  gi_wp2
  refine ⟨⟨by simp,fun c j=>Ae _ _ (by have:=d.o.1 c j;omega)⟩,d.o.1,d.o.2.1.trans ⟨rfl,rfl,rfl,by simp,fun c j=>Ae _ _ (by omega)⟩,by have:=d.o.2.2.1;simpa using this,?_⟩
  rw[V.o]
  exact B8 d.o.2.2.2
 ·rintro - D O W hD - i m
  have hr:Iu b ((Ec a b).take ((Ec a b).map U5).length)=Nat.gcd a b:=by
   rw[yV,yS];exact U4 b a HB.o
  have d:=yb i
  have u:=i.2.2.2
  rw[hr] at u
  have j:=u.cell
  have S:=u.free
  have U:=yb u
  have HD:=yb m
  clear i hr u m
  refine A4 ?_
  go_wp2
  have z:D≠g:=by have:=B.o;omega
  have I:(W.setCell (aV g 0) (.int .u64 ((Nat.gcd a b:Nat):Int))).heap[D]?=some (.deferred (some [])):=(Ae _ _ z).trans HD.o
  have H:M7 (W.setCell (aV g 0) (.int .u64 ((Nat.gcd a b:Nat):Int))) g (Nat.gcd a b):=B8 U.o
  have J:Below g w (W.setCell (aV g 0) (.int .u64 ((Nat.gcd a b:Nat):Int))):=d.o.2.1.trans ⟨rfl,rfl,rfl,by simp,fun c j=>Ae _ _ (by omega)⟩
  refine ⟨by simp,.inl ⟨_,_,rfl,run_takeDeferred I,⟨_,FZ rfl rfl (Es jb rfl ((M7.cell (a:=Nat.gcd a b) (World.putObj_heap_other (xd z) |>.trans H)))),rfl,Jq J (by have:=B.o;omega) _⟩⟩⟩
end Go.Proofs.YtjofgpfocadomaaGreatDoor
namespace Go.Proofs.YtjofgpfocadomaaGreatDoor
open Go.RowKit
set_option linter.unusedSimpArgs false
def Rt.v(r:Rt):Value:=.agg #[.int .i64 r.n,.int .i64 r.d]
def Qx(b:Bool):Int:=if b=true then 0 else 120
theorem Lm(r:Rt)(w:World):Calls Tryz.prog 42 #[r.v] w fun e w'=>e=.returned (.int .i64 (Qx (Ba r)))∧Below w.heap.size w w':=by
 obtain ⟨n,d⟩:=r
 unfold Rt.v
 dsimp only
 by_cases h1:1<=d
 rotate_left
 ·have e1:decide (d < 1)=true:=by simp[BR] at h1 ⊢;omega
  have hf:Hid (Ba ⟨n,d⟩=false):=yb (by unfold Ba;simp[*])
  clear h1
  go_enter Tryz.func42,Tryz.ntmps42
  go_wp2
  go_region
  go_wp2
  go_ret
  exact ⟨by rw[hf.o];rfl,((yg _ _).alloc (yf _) _).drew⟩
 have e1:decide (d < 1)=false:=by simp[BR] at h1 ⊢;omega
 by_cases h2:d<=BR
 rotate_left
 ·have e2:decide (1073741824 < d)=true:=by simp[BR] at h2 ⊢;omega
  have hf:Hid (Ba ⟨n,d⟩=false):=yb (by unfold Ba;simp[*])
  clear h1 h2
  go_enter Tryz.func42,Tryz.ntmps42
  go_wp2
  go_region
  go_wp2
  go_ret
  exact ⟨by rw[hf.o];rfl,((yg _ _).alloc (yf _) _).drew⟩
 have e2:decide (1073741824 < d)=false:=by simp[BR] at h2 ⊢;omega
 by_cases h3: -BR<=n
 rotate_left
 ·have e3:decide (n < -1073741824)=true:=by simp[BR] at h3 ⊢;omega
  have hf:Hid (Ba ⟨n,d⟩=false):=yb (by unfold Ba;simp[*])
  clear h1 h2 h3
  go_enter Tryz.func42,Tryz.ntmps42
  go_wp2
  go_region
  go_wp2
  go_ret
  exact ⟨by rw[hf.o];rfl,((yg _ _).alloc (yf _) _).drew⟩
 have e3:decide (n < -1073741824)=false:=by simp[BR] at h3 ⊢;omega
 by_cases h4:n<=BR
 rotate_left
 ·have e4:decide (1073741824 < n)=true:=by simp[BR] at h4 ⊢;omega
  have hf:Hid (Ba ⟨n,d⟩=false):=yb (by unfold Ba;simp[*])
  clear h1 h2 h3 h4
  go_enter Tryz.func42,Tryz.ntmps42
  go_wp2
  go_region
  go_wp2
  go_ret
  exact ⟨by rw[hf.o];rfl,((yg _ _).alloc (yf _) _).drew⟩
 have e4:decide (1073741824 < n)=false:=by simp[BR] at h4 ⊢;omega
 have HC:Hid (Ba ⟨n,d⟩=decide (Int.gcd n d=1)):=yb (by unfold Ba;simp[h1,h2,h3,h4])
 have HM:Hid (∀W,Calls Tryz.prog 28 #[.int .i64 n] W fun e w'=>e=.returned (.int .u64 (n.natAbs:Int))∧w'=W):=yb (fun W=>FR n (by unfold BR at h3;omega) (by unfold BR at h4;omega) W)
 obtain ⟨k,hk⟩:∃k:Nat,k=d.toNat:=⟨_,rfl⟩
 have hk1:(k:Int)=d:=by omega
 have hw:IntKind.u64.wrap d=(k:Int):=by rw[H3,hk1];unfold BR at h2;omega
 have HG:Hid (Int.gcd n d=Nat.gcd n.natAbs k):=yb (by unfold Int.gcd;congr 1;omega)
 have HD:Hid (∀W,Calls Tryz.prog 29 #[.int .u64 (n.natAbs:Int),.int .u64 (k:Int)] W fun e w'=>e=.returned (.int .u64 ((Nat.gcd n.natAbs k:Nat):Int))∧Below W.heap.size W w'):=yb (fun W=>K3 n.natAbs k (by unfold BR at h3 h4;omega) (by unfold BR at h2;omega) W)
 clear h1 h2 h3 h4 hk hk1
 generalize n.natAbs=m at*
 generalize Nat.gcd m k=g at*
 rw[HC.o,HG.o]
 clear HC HG
 have HS1:Hid ((w.alloc (.cells #[.int .i64 n,.int .i64 d] 44)).drew.cell? ⟨w.heap.size,0,none⟩=some (.int .i64 n)∧(w.alloc (.cells #[.int .i64 n,.int .i64 d] 44)).drew.cell? ⟨w.heap.size,1,none⟩=some (.int .i64 d)):=yb (by
  have h:=World.alloc_heap_new w (.cells #[.int .i64 n,.int .i64 d] 44)
  simp only[World.cell?,World.drew,h];simp)
 have HB1:Hid (Below w.heap.size w (w.alloc (.cells #[.int .i64 n,.int .i64 d] 44)).drew):=yb (((yg _ _).alloc (yf _) _).drew)
 go_enter Tryz.func42,Tryz.ntmps42
 go_wp2
 go_region_held3 (fun w'=>w'.cell? ⟨w.heap.size,0,none⟩=some (.int .i64 n)∧w'.cell? ⟨w.heap.size,1,none⟩=some (.int .i64 d)) (first|exact HS1.o|exact HS2.o) (first|(go_at_call 28;refine (HM.o _).mono ?_;rintro e w2 ⟨rfl,rfl⟩)|(go_at_call 29;refine (HD.o _).mono ?_;rintro e w2 ⟨rfl,hw2⟩;have HS2:=yb (And.intro ((hw2.cell (p:=⟨w.heap.size,0,none⟩) (yP _ _ HS1.o.1)).trans HS1.o.1) ((hw2.cell (p:=⟨w.heap.size,1,none⟩) (yP _ _ HS1.o.2)).trans HS1.o.2));have HB2:=yb (HB1.o.trans (hw2.mono HB1.o.size));clear hw2))
 by_cases hg:g=1
 ·have hgi:((g:Int) !=1)=false:=by simp[hg]
  have hgo:Hid (Qx (decide (g=1))=0):=yb (by simp[hg,Qx])
  clear hg
  go_wp2
  go_ret
  exact ⟨by rw[hgo.o];rfl,HB2.o⟩
 ·have hgi:((g:Int) !=1)=true:=by simp;omega
  have hgo:Hid (Qx (decide (g=1))=120):=yb (by simp[hg,Qx])
  clear hg
  go_wp2
  go_ret
  exact ⟨by rw[hgo.o];rfl,HB2.o⟩
theorem DG{W:World}{b:Nat}{x y:Value}{t:TypeId}(h:W.heap[b]?=some (.cells #[x,y] t (0,0))):W.cell? ⟨b,0,none⟩=some x∧W.cell? ⟨b,1,none⟩=some y∧W.frozen? ⟨b,0,none⟩=false∧W.frozen? ⟨b,1,none⟩=false:=by
 refine ⟨?_,?_,?_,?_⟩
 ·simp only[World.cell?,h];simp
 ·simp only[World.cell?,h];simp
 ·simp[World.frozen?,h]
 ·simp[World.frozen?,h]
theorem Ln(x:Int)(h1: -9223372036854775808<=x)(h2:x < 9223372036854775808):IntKind.i64.wrap x=x:=by
 rw[IntKind.wrap_i64];omega
theorem Dl{W:World}{b:Nat}{x y v:Value}{t:TypeId}(h:W.heap[b]?=some (.cells #[x,y] t (0,0))):(W.setCell ⟨b,0,none⟩ v).heap[b]?=some (.cells #[v,y] t (0,0)):=by
 simp[World.setCell,yL,h]
theorem Dw{W:World}{b:Nat}{x y v:Value}{t:TypeId}(h:W.heap[b]?=some (.cells #[x,y] t (0,0))):(W.setCell ⟨b,1,none⟩ v).heap[b]?=some (.cells #[x,v] t (0,0)):=by
 simp[World.setCell,yL,h]
theorem A5{B:Nat}{a W:World}(h:Below B a W){b o:Nat}(hb:B<=b)(v:Value):Below B a (W.setCell ⟨b,o,none⟩ v):=
 h.trans ⟨rfl,rfl,rfl,by simp,fun k hk=>xM W ⟨b,o,none⟩ v k (by show k≠b;omega)⟩
theorem MV(n d:Int)(h1: -4611686018427387904<=n)(h2:n<=4611686018427387904)(h3: -4611686018427387904<=d)(h4:d<=4611686018427387904)(w:World):Calls Tryz.prog 14 #[.int .i64 n,.int .i64 d] w fun e w'=>e=.returned (.tuple #[(C8 n d).1.v,.int .i64 (C8 n d).2])∧Below w.heap.size w w':=by
 by_cases hd:d=0
 ·have hm:Hid (C8 n d=(It,120)):=yb (by unfold C8;rw[yw hd])
  have hdi:(d==0)=true:=by simpa using hd
  rw[hm.o]
  clear hd hm
  go_enter Tryz.func14,Tryz.ntmps14
  go_wp2
  exact A3 rfl rfl (World.alloc_heap_new _ _) j4 rfl (by kernel_rfl) ⟨rfl,(yg _ _).alloc (yf _) _⟩
 have HM:Hid (∀W,Calls Tryz.prog 28 #[.int .i64 n] W fun e w'=>e=.returned (.int .u64 (n.natAbs:Int))∧w'=W):=yb (fun W=>FR n h1 h2 W)
 have HM2:Hid (∀W,Calls Tryz.prog 28 #[.int .i64 d] W fun e w'=>e=.returned (.int .u64 (d.natAbs:Int))∧w'=W):=yb (fun W=>FR d h3 h4 W)
 have HD:Hid (∀W,Calls Tryz.prog 29 #[.int .u64 (n.natAbs:Int),.int .u64 (d.natAbs:Int)] W fun e w'=>e=.returned (.int .u64 ((Int.gcd n d:Nat):Int))∧Below W.heap.size W w'):=yb (fun W=>K3 n.natAbs d.natAbs (by omega) (by omega) W)
 have hdi:(d==0)=false:=by simpa using hd
 have hgp:0 < Int.gcd n d:=Int.gcd_pos_of_ne_zero_right n hd
 have hg0:((Int.gcd n d:Int)==0)=false:=by simp;intro _;exact hd
 obtain ⟨x,hx⟩:∃x:Nat,x=n.natAbs / Int.gcd n d:=⟨_,rfl⟩
 obtain ⟨y,hy⟩:∃y:Nat,y=d.natAbs / Int.gcd n d:=⟨_,rfl⟩
 have hxi:((n.natAbs:Nat):Int) / ((Int.gcd n d:Nat):Int)=(x:Int):=by rw[hx];simp
 have hyi:((d.natAbs:Nat):Int) / ((Int.gcd n d:Nat):Int)=(y:Int):=by rw[hy];simp
 have hxt:((n.natAbs:Nat):Int).tdiv ((Int.gcd n d:Nat):Int)=(x:Int):=by rw[hx];rfl
 have hyt:((d.natAbs:Nat):Int).tdiv ((Int.gcd n d:Nat):Int)=(y:Int):=by rw[hy];rfl
 have hxw:IntKind.u64.wrap (x:Int)=(x:Int):=by
  have:x<=n.natAbs:=by rw[hx];exact Nat.div_le_self _ _
  rw[H3];omega
 have hyw:IntKind.u64.wrap (y:Int)=(y:Int):=by
  have:y<=d.natAbs:=by rw[hy];exact Nat.div_le_self _ _
  rw[H3];omega
 have HMk:Hid (C8 n d=if BR < max (x:Int) (y:Int) then (It,2) else (⟨if (decide (n < 0) !=decide (d < 0))=true then -(x:Int) else x,y⟩,0)):=yb (by unfold C8;rw[yq hd,hx,hy])
 clear h1 h2 h3 h4 hd hgp hx hy
 generalize n.natAbs=m at*
 generalize d.natAbs=k at*
 generalize Int.gcd n d=g at*
 have hgn:¬ ((g:Int)=0):=by simpa using hg0
 have hgm:¬ (g=0):=by omega
 obtain ⟨z,hz⟩:∃z:Int,z=max (x:Int) (y:Int):=⟨_,rfl⟩
 have hzi:(if (x:Int) < (y:Int) then (y:Int) else (x:Int))=z:=by split<;>omega
 have hzj:max (x:Int) (y:Int)=z:=hz.symm
 have HZ:=yb hz
 clear hz
 by_cases hbig:BR < z
 ·have hdz:decide (1073741824 < z)=true:=by simpa[BR] using hbig
  have hm:Hid (C8 n d=(It,2)):=yb (by rw[HMk.o,yw (by rw[<-HZ.o];exact hbig)])
  rw[hm.o]
  clear hbig HMk hm
  go_enter Tryz.func14,Tryz.ntmps14
  go_wp2_with (first|(go_at_call 28;with_reducible refine (HM.o _).mono ?_;rintro e w2 ⟨rfl,rfl⟩)|(go_at_call 28;with_reducible refine (HM2.o _).mono ?_;rintro e w2 ⟨rfl,rfl⟩)|(go_at_call 29;refine (HD.o _).mono ?_;rintro e w2 ⟨rfl,hw2⟩;have hr:w2.heap[w.heap.size]?=some (.cells #[.int .i64 0,.int .i64 0] 44 (0,0)):=(hw2.block _ (by simp)).trans (World.alloc_heap_new _ _);have HR:=yb hr;obtain ⟨c0,c1,f0,f1⟩:=DG hr;have HB2:=yb (((yg _ w).alloc (yf _) (.cells #[.int .i64 0,.int .i64 0] 44)).trans (hw2.mono (by simp)));clear hw2 hr))
  go_region
  go_wp2
  exact A3 rfl rfl (Dw (Dl HR.o)) j4 rfl (by kernel_rfl) ⟨rfl,(A5 (A5 HB2.o (yf _) _) (yf _) _).drew⟩
 have hdz:decide (1073741824 < z)=false:=by simpa[BR] using hbig
 have hm:Hid (C8 n d=(⟨if (decide (n < 0) !=decide (d < 0))=true then -(x:Int) else x,y⟩,0)):=yb (by rw[HMk.o,yq (by rw[<-HZ.o];exact hbig)])
 have hxs:IntKind.i64.wrap (x:Int)=(x:Int):=by have:=HZ.o;unfold BR at hbig;exact Ln _ (by omega) (by omega)
 have hys:IntKind.i64.wrap (y:Int)=(y:Int):=by have:=HZ.o;unfold BR at hbig;exact Ln _ (by omega) (by omega)
 have hxn:IntKind.i64.wrap (-(x:Int))= -(x:Int):=by have:=HZ.o;unfold BR at hbig;exact Ln _ (by omega) (by omega)
 rw[hm.o]
 clear hbig HMk hm
 have HNe:Hid (∀c d:Bool,(!c==d)=(c !=d)):=yb (by decide)
 cases hne:(decide (n < 0) !=decide (d < 0)) with
 |true=>
  have hnf:=(HNe.o (decide (n < 0)) (decide (d < 0))).trans hne
  go_enter Tryz.func14,Tryz.ntmps14
  go_wp2_with (first|(go_at_call 28;with_reducible refine (HM.o _).mono ?_;rintro e w2 ⟨rfl,rfl⟩)|(go_at_call 28;with_reducible refine (HM2.o _).mono ?_;rintro e w2 ⟨rfl,rfl⟩)|(go_at_call 29;refine (HD.o _).mono ?_;rintro e w2 ⟨rfl,hw2⟩;have hr:w2.heap[w.heap.size]?=some (.cells #[.int .i64 0,.int .i64 0] 44 (0,0)):=(hw2.block _ (by simp)).trans (World.alloc_heap_new _ _);have HR:=yb hr;obtain ⟨c0,c1,f0,f1⟩:=DG hr;have HB2:=yb (((yg _ w).alloc (yf _) (.cells #[.int .i64 0,.int .i64 0] 44)).trans (hw2.mono (by simp)));clear hw2 hr))
  go_region
  go_wp2
  exact A3 rfl rfl (Dw (Dl (Dl (Dw (Dl HR.o))))) j4 rfl (by kernel_rfl) ⟨rfl,(A5 (A5 (A5 (A5 (A5 HB2.o (yf _) _) (yf _) _) (yf _) _) (yf _) _) (yf _) _).drew⟩
 |false=>
  have hnf:=(HNe.o (decide (n < 0)) (decide (d < 0))).trans hne
  go_enter Tryz.func14,Tryz.ntmps14
  go_wp2_with (first|(go_at_call 28;with_reducible refine (HM.o _).mono ?_;rintro e w2 ⟨rfl,rfl⟩)|(go_at_call 28;with_reducible refine (HM2.o _).mono ?_;rintro e w2 ⟨rfl,rfl⟩)|(go_at_call 29;refine (HD.o _).mono ?_;rintro e w2 ⟨rfl,hw2⟩;have hr:w2.heap[w.heap.size]?=some (.cells #[.int .i64 0,.int .i64 0] 44 (0,0)):=(hw2.block _ (by simp)).trans (World.alloc_heap_new _ _);have HR:=yb hr;obtain ⟨c0,c1,f0,f1⟩:=DG hr;have HB2:=yb (((yg _ w).alloc (yf _) (.cells #[.int .i64 0,.int .i64 0] 44)).trans (hw2.mono (by simp)));clear hw2 hr))
  go_region
  go_wp2
  exact A3 rfl rfl (Dw (Dl (Dw (Dl HR.o)))) j4 rfl (by kernel_rfl) ⟨rfl,(A5 (A5 (A5 (A5 HB2.o (yf _) _) (yf _) _) (yf _) _) (yf _) _).drew⟩
set_option linter.unusedSimpArgs false
theorem Vp{a:Rt}(h:Ba a=true):(a.n.natAbs<=1073741824∧a.d.natAbs<=1073741824):=by
 unfold Ba at h
 simp only[yE,yT] at h
 unfold BR at h
 omega
theorem Mi{x y:Int}(a:x.natAbs<=1073741824)(b:y.natAbs<=1073741824):(x*y).natAbs<=1152921504606846976:=by
 rw[Int.natAbs_mul]
 exact qA a b
theorem AH{x:Int}(h:x.natAbs<=4611686018427387904):wrap64 x=x:=by unfold wrap64;omega
def SD(op:Int)(a b:Rt)(w:World)(e:Ending)(w':World):Prop:=e=.returned (.tuple #[.int .i64 (Cu op a b).1,.int .i64 (Cu op a b).2])∧Below w.heap.size w w'
theorem KC(a b:Rt)(i:Ba a=true)(hb:Ba b=true)(w:World):
  Calls Tryz.prog 101 #[a.v,b.v] w (SD 3 a b w)∧Calls Tryz.prog 102 #[a.v,b.v] w (SD 4 a b w)∧Calls Tryz.prog 30 #[a.v,b.v] w (SD 5 a b w)∧Calls Tryz.prog 104 #[a.v,b.v] w (SD 6 a b w):=by
 have h1:=Vp i
 have h2:=Vp hb
 obtain ⟨n,d⟩:=a
 obtain ⟨m,k⟩:=b
 unfold Rt.v
 dsimp only at h1 h2 ⊢
 have p:=Mi h1.1 h2.2
 have y:=Mi h2.1 h1.2
 have u:=Mi h1.2 h2.2
 have s:=Mi h1.1 h2.1
 have t:=Mi h1.2 h2.1
 have o:=AH (x:=n*k) (by omega)
 have z:=AH (x:=m*d) (by omega)
 have h:=AH (x:=d*k) (by omega)
 have r:=AH (x:=n*m) (by omega)
 have q:=AH (x:=d*m) (by omega)
 have j:=AH (x:=n*k+m*d) (by omega)
 have l:=AH (x:=n*k - m*d) (by omega)
 clear h1 h2 p y u s t i hb
 have g:Cu 3 ⟨n,d⟩ ⟨m,k⟩=(n*k+m*d,d*k):=by simp[Cu]
 have c:Cu 4 ⟨n,d⟩ ⟨m,k⟩=(n*k - m*d,d*k):=by simp[Cu]
 have e:Cu 5 ⟨n,d⟩ ⟨m,k⟩=(n*m,d*k):=by simp[Cu]
 have f:Cu 6 ⟨n,d⟩ ⟨m,k⟩=(n*k,d*m):=by simp[Cu]
 refine ⟨?_,?_,?_,?_⟩
 ·clear c e f;go_enter Tryz.func101,Tryz.ntmps101
  go_wp2
  go_region
  go_wp2
  refine zw (results_tmp2 rfl _ _ _) rfl ⟨?_,(((yg _ _).alloc (yf _) _).alloc (by simp) _).drew⟩
  rw[g]
  show Ending.returned (.tuple #[iV (wrap64 (n*k+m*d)),iV (wrap64 (d*k))])=_
  rw[j,h]
 ·clear g e f;go_enter Tryz.func102,Tryz.ntmps102
  go_wp2
  go_region
  go_wp2
  refine zw (results_tmp2 rfl _ _ _) rfl ⟨?_,(((yg _ _).alloc (yf _) _).alloc (by simp) _).drew⟩
  rw[c]
  show Ending.returned (.tuple #[iV (wrap64 (n*k - m*d)),iV (wrap64 (d*k))])=_
  rw[l,h]
 ·clear g c f;go_enter Tryz.func30,Tryz.ntmps30
  go_wp2
  go_region
  go_wp2
  refine zw (results_tmp2 rfl _ _ _) rfl ⟨?_,(((yg _ _).alloc (yf _) _).alloc (by simp) _).drew⟩
  rw[e]
  show Ending.returned (.tuple #[iV (wrap64 (n*m)),iV (wrap64 (d*k))])=_
  rw[r,h]
 ·clear g c e;go_enter Tryz.func104,Tryz.ntmps104
  go_wp2
  go_region
  go_wp2
  refine zw (results_tmp2 rfl _ _ _) rfl ⟨?_,(((yg _ _).alloc (yf _) _).alloc (by simp) _).drew⟩
  rw[f]
  show Ending.returned (.tuple #[iV (wrap64 (n*k)),iV (wrap64 (d*m))])=_
  rw[o,q]
structure WN (w:World) (f:Value) (a b:Rt) (W:World):Prop where
 below:Below w.heap.size w W
 fn:W.heap[w.heap.size]?=some (.cells #[f] 78 (0,0))
 a:W.heap[w.heap.size+1]?=some (.cells #[.int .i64 a.n,.int .i64 a.d] 44 (0,0))
 b:W.heap[w.heap.size+1+1]?=some (.cells #[.int .i64 b.n,.int .i64 b.d] 44 (0,0))
 r:W.heap[w.heap.size+1+1+1]?=some (.cells #[.int .i64 0,.int .i64 0] 44 (0,0))
theorem WN.lt{w:World}{f:Value}{a b:Rt}{W:World}(h:WN w f a b W):w.heap.size+3 < W.heap.size:=(yd.1 h.r).1
theorem WN.up{w:World}{f:Value}{a b:Rt}{W W':World}(h:WN w f a b W)(c:Below W.heap.size W W'):WN w f a b W':=by
 have d:=h.lt
 exact ⟨h.below.trans (c.mono (by omega)),(c.block _ (by omega)).trans h.fn,(c.block _ (by omega)).trans h.a,(c.block _ (by omega)).trans h.b,(c.block _ (by omega)).trans h.r⟩
theorem Vq(w:World)(f:Value)(a b:Rt):WN w f a b ((((w.alloc (.cells #[f] 78)).alloc (.cells #[.int .i64 a.n,.int .i64 a.d] 44)).alloc (.cells #[.int .i64 b.n,.int .i64 b.d] 44)).alloc (.cells #[.int .i64 0,.int .i64 0] 44)):=by
 have h1:=World.alloc_heap_new w (.cells #[f] 78)
 have h2:=World.alloc_heap_new (w.alloc (.cells #[f] 78)) (.cells #[iV a.n,iV a.d] 44)
 have h3:=World.alloc_heap_new ((w.alloc (.cells #[f] 78)).alloc (.cells #[iV a.n,iV a.d] 44)) (.cells #[iV b.n,iV b.d] 44)
 have c:=World.alloc_heap_new (((w.alloc (.cells #[f] 78)).alloc (.cells #[iV a.n,iV a.d] 44)).alloc (.cells #[iV b.n,iV b.d] 44)) (.cells jh 44)
 simp only[z6] at h2 h3 c
 refine ⟨((((yg _ _).alloc (yf _) _).alloc (by simp) _).alloc (by simp<;>omega) _).alloc (by simp<;>omega) _,?_,?_,?_,c⟩
 ·exact (yA _ _ _ (by simp<;>omega)).trans ((yA _ _ _ (by simp<;>omega)).trans ((yA _ _ _ (by simp)).trans h1))
 ·exact (yA _ _ _ (by simp<;>omega)).trans ((yA _ _ _ (by simp)).trans h2)
 ·exact (yA _ _ _ (by simp)).trans h3
theorem ND{W:World}{b:Nat}{x:Value}{t:TypeId}(h:W.heap[b]?=some (.cells #[x] t (0,0))):W.cell? ⟨b,0,none⟩=some x:=by simp[World.cell?,h]
theorem KD(op:Int)(id:FuncId)(a b:Rt)(X:∀args W,(callFunc id args).run Tryz.prog W=.ok (.enter id args) W)(R:Ba a=true->Ba b=true->∀W,Calls Tryz.prog id #[a.v,b.v] W (SD op a b W))(J:Ba a=true->Ba b=true->(Cu op a b).1.natAbs<=4611686018427387904∧(Cu op a b).2.natAbs<=4611686018427387904)(w:World):
  Calls Tryz.prog 31 #[.agg #[.func (.func id) #[] #[]],a.v,b.v] w fun e w'=>e=.returned (.tuple #[(KB op a b).1.v,.int .i64 (KB op a b).2])∧Below w.heap.size w w':=by
 have t:Hid (∀W,Calls Tryz.prog 42 #[a.v] W fun e w'=>e=.returned (iV (Qx (Ba a)))∧Below W.heap.size W w'):=yb (Lm a)
 have l:Hid (∀W,Calls Tryz.prog 42 #[b.v] W fun e w'=>e=.returned (iV (Qx (Ba b)))∧Below W.heap.size W w'):=yb (Lm b)
 unfold KB
 have T:=yb R
 have S:=yb J
 clear R J
 generalize N:Ba a=ca at*
 generalize P:Ba b=cb at*
 clear N P
 obtain ⟨n,z⟩:=a
 obtain ⟨m,q⟩:=b
 unfold Rt.v at*
 dsimp only at*
 have d:=yb (Vq w (.func (.func id) #[] #[]) ⟨n,z⟩ ⟨m,q⟩)
 dsimp only at d
 go_enter Tryz.func31,Tryz.ntmps31
 refine Ab fun K Q=>?_
 go_wp2
 refine Q.o _ _ ?_
 clear Q
 generalize U:(((w.alloc (.cells #[.func (.func id) #[] #[]] 78)).alloc (.cells #[iV n,iV z] 44)).alloc (.cells #[iV m,iV q] 44)).alloc (.cells jh 44)=W0 at*
 clear U
 obtain ⟨H,a1,p,s⟩:=DG d.o.a
 obtain ⟨A,b1,g,h⟩:=DG d.o.b
 obtain ⟨C,r1,j,k⟩:=DG d.o.r
 have F:=ND d.o.fn
 cases ca with
 |false=>
  have L:Hid (∀W,Calls Tryz.prog 42 #[.agg #[iV n,iV z]] W fun e w'=>e=.returned (iV 120)∧Below W.heap.size W w'):=t
  clear t l
  go_wp2_with (first|(go_at_call 42;with_reducible refine (L.o _).mono ?_;rintro e w2 ⟨rfl,i⟩;have c:=yb (d.o.up i);clear d i F C r1 j k H a1 p s A b1 g h;obtain ⟨C,r1,j,k⟩:=DG c.o.r))
  exact A3 rfl rfl (Dw (Dl c.o.r)) j4 rfl (by kernel_rfl) ⟨rfl,A5 (A5 c.o.below (by omega) _) (by omega) _⟩
 |true=>
  have L:Hid (∀W,Calls Tryz.prog 42 #[.agg #[iV n,iV z]] W fun e w'=>e=.returned (iV 0)∧Below W.heap.size W w'):=t
  cases cb with
  |false=>
   have O:Hid (∀W,Calls Tryz.prog 42 #[.agg #[iV m,iV q]] W fun e w'=>e=.returned (iV 120)∧Below W.heap.size W w'):=l
   clear t l
   go_wp2_with (first|(go_at_call 42;with_reducible refine (L.o _).mono ?_;rintro e w2 ⟨rfl,i⟩;have c:=yb (d.o.up i);clear d i F C r1 j k H a1 p s A b1 g h;obtain ⟨A,b1,g,h⟩:=DG c.o.b)|(go_at_call 42;with_reducible refine (O.o _).mono ?_;rintro e Y ⟨rfl,u⟩;have f:=yb (c.o.up u);clear c u A b1 g h;obtain ⟨C,r1,j,k⟩:=DG f.o.r))
   exact A3 rfl rfl (Dw (Dl f.o.r)) j4 rfl (by kernel_rfl) ⟨rfl,A5 (A5 f.o.below (by omega) _) (by omega) _⟩
  |true=>
   have O:Hid (∀W,Calls Tryz.prog 42 #[.agg #[iV m,iV q]] W fun e w'=>e=.returned (iV 0)∧Below W.heap.size W w'):=l
   clear t l
   have J:=S.o rfl rfl
   have M:Hid (∀W,Calls Tryz.prog 14 #[iV (Cu op ⟨n,z⟩ ⟨m,q⟩).1,iV (Cu op ⟨n,z⟩ ⟨m,q⟩).2] W fun e w'=>e=.returned (.tuple #[(C8 (Cu op ⟨n,z⟩ ⟨m,q⟩).1 (Cu op ⟨n,z⟩ ⟨m,q⟩).2).1.v,iV (C8 (Cu op ⟨n,z⟩ ⟨m,q⟩).1 (Cu op ⟨n,z⟩ ⟨m,q⟩).2).2])∧Below W.heap.size W w'):=yb (fun W=>MV _ _ (by omega) (by omega) (by omega) (by omega) W)
   have G:=yb (T.o rfl rfl)
   unfold SD at G
   clear J S T
   simp only[Bool.and_self,zU]
   generalize Cu op ⟨n,z⟩ ⟨m,q⟩=Z at*
   obtain ⟨x,y⟩:=Z
   dsimp only at*
   generalize C8 x y=V at*
   obtain ⟨⟨mn,md⟩,me⟩:=V
   unfold Rt.v at*
   dsimp only at*
   go_wp2_with (first|(go_at_call 42;with_reducible refine (L.o _).mono ?_;rintro e w2 ⟨rfl,i⟩;have c:=yb (d.o.up i);clear d i F C r1 j k H a1 p s A b1 g h;obtain ⟨A,b1,g,h⟩:=DG c.o.b)|(go_at_call 42;with_reducible refine (O.o _).mono ?_;rintro e Y ⟨rfl,u⟩;have f:=yb (c.o.up u);clear c u A b1 g h;obtain ⟨H,a1,p,s⟩:=DG f.o.a;obtain ⟨A,b1,g,h⟩:=DG f.o.b;have F:=ND f.o.fn)|fail)
   refine (G.o _).mono ?_
   rintro e w4 ⟨rfl,E⟩
   have I:=yb (f.o.up E)
   clear f E H a1 p s A b1 g h F
   go_wp2_with (first|(go_at_call 14;with_reducible refine (M.o _).mono ?_;rintro e w5 ⟨rfl,D⟩;have B:=yb (I.o.up D);clear I D;obtain ⟨C,r1,j,k⟩:=DG B.o.r))
   exact A3 rfl rfl (Dw (Dl B.o.r)) j4 rfl (by kernel_rfl) ⟨rfl,A5 (A5 B.o.below (by omega) _) (by omega) _⟩
theorem Dr(w:World)(o1 o2 a:Obj):(((w.alloc o1).alloc o2).alloc a).heap[w.heap.size+1+1]?=some a:=by
 have h:=World.alloc_heap_new ((w.alloc o1).alloc o2) a
 simpa only[z6] using h
def Wj(op:Int)(a b:Rt)(w:World)(e:Ending)(w':World):Prop:=e=.returned (.tuple #[(KB op a b).1.v,.int .i64 (KB op a b).2])∧Below w.heap.size w w'
theorem Lo(a b:Rt)(w:World):
  Calls Tryz.prog 95 #[a.v,b.v] w (Wj 3 a b w)∧Calls Tryz.prog 96 #[a.v,b.v] w (Wj 4 a b w)∧Calls Tryz.prog 15 #[a.v,b.v] w (Wj 5 a b w)∧Calls Tryz.prog 98 #[a.v,b.v] w (Wj 6 a b w):=by
 have d:∀op,Ba a=true->Ba b=true->(Cu op a b).1.natAbs<=4611686018427387904∧(Cu op a b).2.natAbs<=4611686018427387904:=by
  intro op f hb
  have h1:=Vp f
  have h2:=Vp hb
  have J:=Mi h1.1 h2.2
  have C:=Mi h2.1 h1.2
  have P:=Mi h1.2 h2.2
  have K:=Mi h1.1 h2.1
  have O:=Mi h1.2 h2.1
  unfold Cu
  split
  ·constructor<;>dsimp only<;>omega
  ·split
   ·constructor<;>dsimp only<;>omega
   ·split<;>constructor<;>dsimp only<;>omega
 have p:=fun W=>KD 3 101 a b (fun _ _=>rfl) (fun f hb W=>(KC a b f hb W).1) (d 3) W
 have k:=fun W=>KD 4 102 a b (fun _ _=>rfl) (fun f hb W=>(KC a b f hb W).2.1) (d 4) W
 have m:=fun W=>KD 5 30 a b (fun _ _=>rfl) (fun f hb W=>(KC a b f hb W).2.2.1) (d 5) W
 have n:=fun W=>KD 6 104 a b (fun _ _=>rfl) (fun f hb W=>(KC a b f hb W).2.2.2) (d 6) W
 unfold Wj
 generalize KB 3 a b=r at*
 generalize KB 4 a b=q at*
 generalize KB 5 a b=s at*
 generalize KB 6 a b=t at*
 obtain ⟨⟨I,y⟩,G⟩:=r
 obtain ⟨⟨E,N⟩,M⟩:=q
 obtain ⟨⟨z,H⟩,Q⟩:=s
 obtain ⟨⟨B,x⟩,F⟩:=t
 obtain ⟨A,L⟩:=a
 obtain ⟨u,D⟩:=b
 unfold Rt.v at*
 dsimp only at*
 clear d
 have p:=yb p
 have k:=yb k
 have m:=yb m
 have n:=yb n
 refine ⟨?_,?_,?_,?_⟩
 ·go_enter Tryz.func95,Tryz.ntmps95
  go_wp2_with (first|(go_at_call 31;with_reducible refine (p.o _).mono ?_;rintro e w2 ⟨rfl,c⟩;have hr:=(c.block (w.heap.size+1+1) (by simp)).trans (Dr _ _ _ _);have h:=yb hr;obtain ⟨l,r1,g,j⟩:=DG hr;have i:=yb (((((yg w.heap.size w).alloc (yf _) _).alloc (by simp) _).alloc (by simp<;>omega) _).trans (c.mono (by simp<;>omega)));clear c hr))
  exact A3 rfl rfl (Dw (Dl h.o)) j4 rfl (by kernel_rfl) ⟨rfl,A5 (A5 i.o (by omega) _) (by omega) _⟩
 ·go_enter Tryz.func96,Tryz.ntmps96
  go_wp2_with (first|(go_at_call 31;with_reducible refine (k.o _).mono ?_;rintro e w2 ⟨rfl,c⟩;have hr:=(c.block (w.heap.size+1+1) (by simp)).trans (Dr _ _ _ _);have h:=yb hr;obtain ⟨l,r1,g,j⟩:=DG hr;have i:=yb (((((yg w.heap.size w).alloc (yf _) _).alloc (by simp) _).alloc (by simp<;>omega) _).trans (c.mono (by simp<;>omega)));clear c hr))
  exact A3 rfl rfl (Dw (Dl h.o)) j4 rfl (by kernel_rfl) ⟨rfl,A5 (A5 i.o (by omega) _) (by omega) _⟩
 ·go_enter Tryz.func15,Tryz.ntmps15
  go_wp2_with (first|(go_at_call 31;with_reducible refine (m.o _).mono ?_;rintro e w2 ⟨rfl,c⟩;have hr:=(c.block (w.heap.size+1+1) (by simp)).trans (Dr _ _ _ _);have h:=yb hr;obtain ⟨l,r1,g,j⟩:=DG hr;have i:=yb (((((yg w.heap.size w).alloc (yf _) _).alloc (by simp) _).alloc (by simp<;>omega) _).trans (c.mono (by simp<;>omega)));clear c hr))
  exact A3 rfl rfl (Dw (Dl h.o)) j4 rfl (by kernel_rfl) ⟨rfl,A5 (A5 i.o (by omega) _) (by omega) _⟩
 ·go_enter Tryz.func98,Tryz.ntmps98
  go_wp2_with (first|(go_at_call 31;with_reducible refine (n.o _).mono ?_;rintro e w2 ⟨rfl,c⟩;have hr:=(c.block (w.heap.size+1+1) (by simp)).trans (Dr _ _ _ _);have h:=yb hr;obtain ⟨l,r1,g,j⟩:=DG hr;have i:=yb (((((yg w.heap.size w).alloc (yf _) _).alloc (by simp) _).alloc (by simp<;>omega) _).trans (c.mono (by simp<;>omega)));clear c hr))
  exact A3 rfl rfl (Dw (Dl h.o)) j4 rfl (by kernel_rfl) ⟨rfl,A5 (A5 i.o (by omega) _) (by omega) _⟩
set_option linter.unusedSimpArgs false
def Dm.row(d:Dm):LV:=[.int .i64 d.l,.int .i64 d.h,.int .i64 d.a]
def Dm.v(d:Dm):Value:=.agg #[.int .i64 d.l,.int .i64 d.h,.int .i64 d.a]
structure GU (w:World):Prop where
 size:6 < w.heap.size
 hours:w.rangeAt 0 0 (Dm.row ⟨0,1,0⟩)
 litres:w.rangeAt 1 0 (Dm.row ⟨1,0,0⟩)
 need:w.rangeAt 2 0 (Dm.row ⟨1,0, -1⟩)
 flow:w.rangeAt 3 0 (Dm.row ⟨1, -1,0⟩)
 none:w.rangeAt 4 0 (Dm.row O5)
 ares:w.rangeAt 5 0 (Dm.row ⟨0,0,1⟩)
theorem GU.up{w w':World}(h:GU w)(hb:Below w.heap.size w w'):GU w':=by
 have hs:=h.size
 exact ⟨yt hs hb.size,A0 h.hours (hb.block _ (by omega)),A0 h.litres (hb.block _ (by omega)),A0 h.need (hb.block _ (by omega)),A0 h.flow (hb.block _ (by omega)),A0 h.none (hb.block _ (by omega)),A0 h.ares (hb.block _ (by omega))⟩
theorem Lp{w:World}{b o:Nat}{x y z:Value}(h:w.rangeAt b o [x,y,z]):w.cell? ⟨b,o,none⟩=some x∧w.cell? ⟨b,o+1,none⟩=some y∧w.cell? ⟨b,o+2,none⟩=some z:=
 ⟨h 0 _ rfl,h 1 _ rfl,h 2 _ rfl⟩
theorem GQ{W:World}{b:Nat}{x y z:Value}{t:TypeId}(h:W.heap[b]?=some (.cells #[x,y,z] t (0,0))):W.cell? ⟨b,0,none⟩=some x∧W.cell? ⟨b,1,none⟩=some y∧W.cell? ⟨b,2,none⟩=some z∧W.frozen? ⟨b,0,none⟩=false∧W.frozen? ⟨b,1,none⟩=false∧W.frozen? ⟨b,2,none⟩=false:=by
 refine ⟨?_,?_,?_,?_,?_,?_⟩<;>simp[World.cell?,World.frozen?,h]
theorem Dx{W:World}{b:Nat}{x y z v:Value}{t:TypeId}(h:W.heap[b]?=some (.cells #[x,y,z] t (0,0))):(W.setCell ⟨b,0,none⟩ v).heap[b]?=some (.cells #[v,y,z] t (0,0)):=by
 simp[World.setCell,yL,h]
theorem Dy{W:World}{b:Nat}{x y z v:Value}{t:TypeId}(h:W.heap[b]?=some (.cells #[x,y,z] t (0,0))):(W.setCell ⟨b,1,none⟩ v).heap[b]?=some (.cells #[x,v,z] t (0,0)):=by
 simp[World.setCell,yL,h]
theorem Dz{W:World}{b:Nat}{x y z v:Value}{t:TypeId}(h:W.heap[b]?=some (.cells #[x,y,z] t (0,0))):(W.setCell ⟨b,2,none⟩ v).heap[b]?=some (.cells #[x,y,v] t (0,0)):=by
 simp[World.setCell,yL,h]
theorem U7(u:Int)(w:World)(n:GU w):Calls Tryz.prog 76 #[.int .i64 u] w fun e w'=>e=.returned (.tuple #[(Eh u).v,.int .i64 (Cz u)])∧Below w.heap.size w w':=by
 have a:=n.up ((yg w.heap.size w).alloc (yf _) (.cells ji 68))
 have b:=yb (World.alloc_heap_new w (.cells ji 68))
 have d:Hid (Below w.heap.size w (w.alloc (.cells ji 68))):=yb ((yg _ _).alloc (yf _) _)
 go_enter Tryz.func76,Tryz.ntmps76
 refine Ab fun K l=>?_
 go_wp2
 refine l.o _ _ ?_
 clear l n
 generalize w.alloc (.cells ji 68)=W at*
 have p:w.heap.size < W.heap.size:=(yd.1 b.o).1
 obtain ⟨x,a1,t⟩:=Lp a.hours
 obtain ⟨r,b1,b2⟩:=Lp a.litres
 obtain ⟨c0,c1,c2⟩:=Lp a.none
 obtain ⟨C,y,A⟩:=Lp a.ares
 obtain ⟨z,r1,r2,s,D,B⟩:=GQ b.o
 clear a p
 have t1:¬ u=1->(u==1)=false:=fun h=>by simpa using h
 have t2:¬ u=2->(u==2)=false:=fun h=>by simpa using h
 have t3:¬ u=3->(u==3)=false:=fun h=>by simpa using h
 have t4:¬ u=4->(u==4)=false:=fun h=>by simpa using h
 have t5:¬ u=5->(u==5)=false:=fun h=>by simpa using h
 have c:=yb (And.intro t1 (And.intro t2 (And.intro t3 (And.intro t4 t5))))
 clear t1 t2 t3 t4 t5
 by_cases h1:u=1
 ·subst h1
  clear c
  go_wp2
  exact A3 rfl rfl (Dz (Dy (Dx b.o))) j9 rfl (by kernel_rfl) ⟨rfl,A5 (A5 (A5 d.o (by omega) _) (by omega) _) (by omega) _⟩
 have i:=c.o.1 h1
 by_cases h2:u=2
 ·subst h2
  clear h1 i
  go_wp2
  exact A3 rfl rfl (Dz (Dy (Dx b.o))) j9 rfl (by kernel_rfl) ⟨rfl,A5 (A5 (A5 d.o (by omega) _) (by omega) _) (by omega) _⟩
 have k:=c.o.2.1 h2
 by_cases h3:u=3
 ·subst h3
  clear h1 h2 i k
  go_wp2
  exact A3 rfl rfl (Dz (Dy (Dx b.o))) j9 rfl (by kernel_rfl) ⟨rfl,A5 (A5 (A5 d.o (by omega) _) (by omega) _) (by omega) _⟩
 have m:=c.o.2.2.1 h3
 by_cases f:u=4
 ·subst f
  clear h1 h2 h3 i k m
  go_wp2
  exact A3 rfl rfl (Dz (Dy (Dx b.o))) j9 rfl (by kernel_rfl) ⟨rfl,A5 (A5 (A5 d.o (by omega) _) (by omega) _) (by omega) _⟩
 have q:=c.o.2.2.2.1 f
 by_cases g:u=5
 ·subst g
  clear h1 h2 h3 f i k m q
  go_wp2
  exact A3 rfl rfl (Dz (Dy (Dx b.o))) j9 rfl (by kernel_rfl) ⟨rfl,A5 (A5 (A5 d.o (by omega) _) (by omega) _) (by omega) _⟩
 have E:=c.o.2.2.2.2 g
 have j:Hid (Eh u=O5∧Cz u=1):=yb (by unfold Eh Cz;simp[h1,h2,h3,f,g])
 rw[j.o.1,j.o.2]
 clear h1 h2 h3 f g c j
 go_wp2
 exact A3 rfl rfl (Dz (Dy (Dx b.o))) j9 rfl (by kernel_rfl) ⟨rfl,A5 (A5 (A5 d.o (by omega) _) (by omega) _) (by omega) _⟩
theorem OT(a b c d e f:Int)(w:World):(Op.equalIn 10000 68 (.agg #[.int .i64 a,.int .i64 b,.int .i64 c]) (.agg #[.int .i64 d,.int .i64 e,.int .i64 f])).run Tryz.prog w=.ok (decide (a=d)&&(decide (b=e)&&decide (c=f))) w:=by
 have l:Tryz.prog.underlying 68=some (.array 3 3):=j9
 have hi:Tryz.prog.underlying 3=some (.int .i64):=qT
 have hs:∀w,(sizeOf 3).run Tryz.prog w=.ok 1 w:=fun w=>by kernel_rfl
 have h:∀w,(isAgg 3).run Tryz.prog w=.ok false w:=fun w=>by
  unfold isAgg
  rw[xj,qj hi w];rfl
 have g:∀x y w,(Op.equalIn 9999 3 (iV x) (iV y)).run Tryz.prog w=.ok (x==y) w:=fun x y w=>run_equalIn_int w 9998 _ _ _ x y hi
 rw[Op.equalIn]
 rw[xj,qj l,xQ]
 simp only[xj,hs,xQ,Std.Legacy.Range.forIn_eq_forIn_range',Std.Legacy.Range.size,List.range']
 simp only[List.forIn_cons,List.forIn_nil,part,xj,h,xQ]
 by_cases h1:a=d
 ·by_cases h2:b=e
  ·by_cases h3:c=f
   ·subst h1 h2 h3;simp[g,h,xj,Result.andThen]
   ·have i:(c==f)=false:=by simpa using h3
    subst h1 h2;simp[g,h,xj,Result.andThen,h3,i]
  ·have j:(b==e)=false:=by simpa using h2
   subst h1;simp[g,h,xj,Result.andThen,h2,j]
 ·have k:(a==d)=false:=by simpa using h1
  simp[g,Result.andThen,h1,k]
theorem Lq(a b:Dm)(w:World):Calls Tryz.prog 94 #[a.v,b.v] w fun e w'=>e=.returned (.tuple #[a.v,.bool (decide (a=b))])∧Below w.heap.size w w':=by
 obtain ⟨c,f,d⟩:=a
 obtain ⟨bl,h,i⟩:=b
 unfold Dm.v
 dsimp only
 have k:=OT c f d bl h i
 have j:Tryz.prog.eqGuardType Tryz.prog.depth 68=false:=by kernel_rfl
 go_enter Tryz.func94,Tryz.ntmps94
 go_wp2
 go_region
 go_wp2
 have g:decide ((⟨c,f,d⟩:Dm)=⟨bl,h,i⟩)=(decide (c=bl)&&(decide (f=h)&&decide (d=i))):=by
  rw[xZ];simp[Dm.mk.injEq]
 rw[g]
 exact A3 rfl rfl (Dr w _ _ (.cells #[iV c,iV f,iV d] 68)) j9 rfl (by kernel_rfl) ⟨rfl,((((yg _ _).alloc (yf _) _).alloc (by simp) _).alloc (by simp<;>omega) _).drew⟩
theorem Vr(s:Int)(w:World):Calls Tryz.prog 97 #[.int .i64 s] w fun e w'=>e=.returned (.func (.func 103) #[] #[.pointer (some ⟨w.heap.size,0,none⟩)])∧w'=w.alloc (.cells #[.int .i64 s] 3):=by
 have a:∀(fn:Fn) (first cap:Array Value) (w:World),(Instr.makeFunc fn first cap).run Tryz.prog w=.ok (.func fn first cap) w:=fun _ _ _ _=>rfl
 go_enter Tryz.func97,Tryz.ntmps97
 go_wp2
 go_ret
 exact ⟨rfl,rfl⟩
structure Mj (w:World) (B:Nat) (s l h a:Int) (b:Dm) (W:World):Prop where
 below:Below w.heap.size w W
 s:W.cell? ⟨B,0,none⟩=some (.int .i64 s)
 a:W.heap[w.heap.size]?=some (.cells #[.int .i64 l,.int .i64 h,.int .i64 a] 68 (0,0))
 b:W.heap[w.heap.size+1]?=some (.cells #[.int .i64 b.l,.int .i64 b.h,.int .i64 b.a] 68 (0,0))
 r:W.heap[w.heap.size+1+1]?=some (.cells #[.int .i64 0,.int .i64 0,.int .i64 0] 68 (0,0))
theorem I6(w:World)(o1 o2 a:Obj):(((w.alloc o1).alloc o2).alloc a).heap[w.heap.size]?=some o1:=
 (yA _ _ _ (by simp<;>omega)).trans ((yA _ _ _ (by simp)).trans (World.alloc_heap_new w o1))
theorem GD(w:World)(o1 o2 a:Obj):(((w.alloc o1).alloc o2).alloc a).heap[w.heap.size+1]?=some o2:=by
 have h:=World.alloc_heap_new (w.alloc o1) o2
 simp only[z6] at h
 exact (yA _ _ _ (by simp)).trans h
theorem Gj(w:World)(o1 o2 a:Obj):Below w.heap.size w (((w.alloc o1).alloc o2).alloc a):=(((yg _ _).alloc (yf _) _).alloc (by simp) _).alloc (by simp<;>omega) _
theorem Mj.drew{w:World}{B:Nat}{s l h a:Int}{b:Dm}{W:World}(k:Mj w B s l h a b W):Mj w B s l h a b W.drew:=⟨k.below.drew,k.s,k.a,k.b,k.r⟩
theorem Mj.set{w:World}{B:Nat}{s l h a l' d e:Int}{b:Dm}{W W':World}(k:Mj w B s l h a b W)(c:D3 W W' w.heap.size [.int .i64 l',.int .i64 d,.int .i64 e] 68)(f:B < w.heap.size):Mj w B s l' d e b W':=by
 refine ⟨c.below k.below (yf _),?_,c.row,(c.block _ (by omega)).trans k.b,(c.block _ (by omega)).trans k.r⟩
 have:=k.s
 unfold World.cell? at this ⊢
 rw[c.block B (by omega)];exact this
theorem Qy{W:World}{b:Nat}{x y z:Value}{t:TypeId}(h:W.heap[b]?=some (.cells #[x,y,z] t (0,0)))(v:Value):D3 W (W.setCell ⟨b,0,none⟩ v) b [v,y,z] t∧D3 W (W.setCell ⟨b,1,none⟩ v) b [x,v,z] t∧D3 W (W.setCell ⟨b,2,none⟩ v) b [x,y,v] t:=
 ⟨⟨rfl,rfl,rfl,by simp,Dx h,fun k a=>xM W ⟨b,0,none⟩ v k a⟩,⟨rfl,rfl,rfl,by simp,Dy h,fun k a=>xM W ⟨b,1,none⟩ v k a⟩,⟨rfl,rfl,rfl,by simp,Dz h,fun k a=>xM W ⟨b,2,none⟩ v k a⟩⟩
theorem JA{n:Int}(h:Qu n=true): -4<=n∧n<=4:=by unfold Qu at h;simpa using h
theorem OU(op:Int)(s:Int)(hs:(op=5∧s=1)∨(op=6∧s= -1))(a b:Dm)(Z:Fv a=true)(hb:Fv b=true)(B:Nat)(w:World)(hB:w.cell? ⟨B,0,none⟩=some (.int .i64 s)):
  Calls Tryz.prog 103 #[a.v,b.v,.pointer (some ⟨B,0,none⟩)] w fun e w'=>e=.returned (.tuple #[(I5 op a b).1.v,.bool (I5 op a b).2])∧Below w.heap.size w w':=by
 have R:Hid (I5 op a b=if Fv (GB s a b)=true then (GB s a b,true) else (O5,false)):=yb (by
  unfold I5
  rcases hs with ⟨rfl,rfl⟩|⟨rfl,rfl⟩
  ·rw[yq (by decide)];rfl
  ·rw[yq (by decide)];rfl)
 have L:Hid (B < w.heap.size):=yb (yP _ _ hB)
 generalize I5 op a b=res at R ⊢
 obtain ⟨O,N,J⟩:=a
 obtain ⟨bl,t,u⟩:=b
 unfold Fv at Z hb
 simp only[yE] at Z hb
 have g1:=JA Z.1
 have g2:=JA Z.2.1
 have g3:=JA Z.2.2
 have g4:=JA hb.1
 have g5:=JA hb.2.1
 have g6:=JA hb.2.2
 have M:s=1∨s= -1:=by omega
 have q1:wrap64 (s*bl)=s*bl∧wrap64 (O+s*bl)=O+s*bl:=by rcases M with rfl|rfl<;>exact ⟨AH (by omega),AH (by omega)⟩
 have q2:wrap64 (s*t)=s*t∧wrap64 (N+s*t)=N+s*t:=by rcases M with rfl|rfl<;>exact ⟨AH (by omega),AH (by omega)⟩
 have q3:wrap64 (s*u)=s*u∧wrap64 (J+s*u)=J+s*u:=by rcases M with rfl|rfl<;>exact ⟨AH (by omega),AH (by omega)⟩
 obtain ⟨h,T⟩:∃x,x=O+s*bl:=⟨_,rfl⟩
 obtain ⟨l,V⟩:∃x,x=N+s*t:=⟨_,rfl⟩
 obtain ⟨m,U⟩:∃x,x=J+s*u:=⟨_,rfl⟩
 have P:GB s ⟨O,N,J⟩ ⟨bl,t,u⟩=⟨h,l,m⟩:=by unfold GB;rw[T,V,U]
 have n:Hid (res=if Fv ⟨h,l,m⟩=true then (⟨h,l,m⟩,true) else (O5,false)):=yb (by rw[R.o,P])
 obtain ⟨y1,S⟩:∃y,y=s*bl:=⟨_,rfl⟩
 obtain ⟨y2,Y⟩:∃y,y=s*t:=⟨_,rfl⟩
 obtain ⟨y3,X⟩:∃y,y=s*u:=⟨_,rfl⟩
 have p1:wrap64 (s*bl)=y1:=by rw[S];exact q1.1
 have p2:wrap64 (s*t)=y2:=by rw[Y];exact q2.1
 have p3:wrap64 (s*u)=y3:=by rw[X];exact q3.1
 have r1:wrap64 (O+y1)=h:=by rw[T,S];exact q1.2
 have r2:wrap64 (N+y2)=l:=by rw[V,Y];exact q2.2
 have r3:wrap64 (J+y3)=m:=by rw[U,X];exact q3.2
 clear hs M R P Z hb g1 g2 g3 g4 g5 g6 q1 q2 q3 T V U S Y X
 unfold Dm.v
 dsimp only
 have c:Hid (Mj w B s O N J ⟨bl,t,u⟩ (((w.alloc (.cells #[iV O,iV N,iV J] 68)).alloc (.cells #[iV bl,iV t,iV u] 68)).alloc (.cells ji 68))):=yb ⟨Gj _ _ _ _,((Gj w _ _ _).cell (p:=(aV B 0)) L.o).trans hB,I6 _ _ _ _,GD _ _ _ _,Dr _ _ _ _⟩
 clear hB
 go_enter Tryz.func103,Tryz.ntmps103
 refine Ab fun K hK=>?_
 go_wp2
 refine hK.o _ _ ?_
 clear hK
 generalize ((w.alloc (.cells #[iV O,iV N,iV J] 68)).alloc (.cells #[iV bl,iV t,iV u] 68)).alloc (.cells ji 68)=W at c ⊢
 go_wp2
 refine qC 4 ?_
 rw[qg]
 obtain ⟨D,a1,E,j,k,i⟩:=GQ c.o.a
 obtain ⟨b0,b1,b2,F,H,I⟩:=GQ c.o.b
 have s0:=c.o.s
 have q:Hid (Mj w B s h N J ⟨bl,t,u⟩ (W.setCell (aV w.heap.size 0) (iV h)).drew):=yb (c.o.set (Qy c.o.a (iV h)).1 L.o).drew
 go_wp2
 go_region
 clear D a1 E j k i b0 b1 b2 F H I s0 c
 generalize (W.setCell (aV w.heap.size 0) (iV h)).drew=W at q ⊢
 have c:=q
 clear q
 obtain ⟨D,a1,E,j,k,i⟩:=GQ c.o.a
 obtain ⟨c0,c1,c2,A,z,C⟩:=GQ c.o.r
 by_cases d:h < -4
 ·have G:decide (h < -4)=true:=by simpa using d
  have g:Hid (¬ Fv ⟨h,l,m⟩=true):=yb (by unfold Fv Qu;simp;omega)
  clear d
  go_wp2
  refine A3 rfl rfl (Dz (Dy (Dx c.o.r))) j9 rfl (by kernel_rfl) ⟨?_,A5 (A5 (A5 c.o.below (by omega) _) (by omega) _) (by omega) _⟩
  rw[n.o,yq g.o];rfl
 by_cases f:4 < h
 ·have G:decide (h < -4)=false:=by simpa using d
  have Q:decide (4 < h)=true:=by simpa using f
  have g:Hid (¬ Fv ⟨h,l,m⟩=true):=yb (by unfold Fv Qu;simp;omega)
  clear d f
  go_wp2
  refine A3 rfl rfl (Dz (Dy (Dx c.o.r))) j9 rfl (by kernel_rfl) ⟨?_,A5 (A5 (A5 c.o.below (by omega) _) (by omega) _) (by omega) _⟩
  rw[n.o,yq g.o];rfl
 have a8:Hid (-4<=h∧h<=4):=yb (by omega)
 have G:decide (h < -4)=false:=by simpa using d
 have Q:decide (4 < h)=false:=by simpa using f
 clear d f
 go_wp2
 clear G Q D a1 E j k i c0 c1 c2 A z C
 rw[qg]
 obtain ⟨D,a1,E,j,k,i⟩:=GQ c.o.a
 obtain ⟨b0,b1,b2,F,H,I⟩:=GQ c.o.b
 have s0:=c.o.s
 have q:Hid (Mj w B s h l J ⟨bl,t,u⟩ (W.setCell (aV w.heap.size 1) (iV l)).drew):=yb (c.o.set (Qy c.o.a (iV l)).2.1 L.o).drew
 go_wp2
 go_region
 clear D a1 E j k i b0 b1 b2 F H I s0 c
 generalize (W.setCell (aV w.heap.size 1) (iV l)).drew=W at q ⊢
 have c:=q
 clear q
 obtain ⟨D,a1,E,j,k,i⟩:=GQ c.o.a
 obtain ⟨c0,c1,c2,A,z,C⟩:=GQ c.o.r
 by_cases d:l < -4
 ·have G:decide (l < -4)=true:=by simpa using d
  have g:Hid (¬ Fv ⟨h,l,m⟩=true):=yb (by unfold Fv Qu;simp;omega)
  clear d
  go_wp2
  refine A3 rfl rfl (Dz (Dy (Dx c.o.r))) j9 rfl (by kernel_rfl) ⟨?_,A5 (A5 (A5 c.o.below (by omega) _) (by omega) _) (by omega) _⟩
  rw[n.o,yq g.o];rfl
 by_cases f:4 < l
 ·have G:decide (l < -4)=false:=by simpa using d
  have Q:decide (4 < l)=true:=by simpa using f
  have g:Hid (¬ Fv ⟨h,l,m⟩=true):=yb (by unfold Fv Qu;simp;omega)
  clear d f
  go_wp2
  refine A3 rfl rfl (Dz (Dy (Dx c.o.r))) j9 rfl (by kernel_rfl) ⟨?_,A5 (A5 (A5 c.o.below (by omega) _) (by omega) _) (by omega) _⟩
  rw[n.o,yq g.o];rfl
 have a7:Hid (-4<=l∧l<=4):=yb (by omega)
 have G:decide (l < -4)=false:=by simpa using d
 have Q:decide (4 < l)=false:=by simpa using f
 clear d f
 go_wp2
 clear G Q D a1 E j k i c0 c1 c2 A z C
 rw[qg]
 obtain ⟨D,a1,E,j,k,i⟩:=GQ c.o.a
 obtain ⟨b0,b1,b2,F,H,I⟩:=GQ c.o.b
 have s0:=c.o.s
 have q:Hid (Mj w B s h l m ⟨bl,t,u⟩ (W.setCell (aV w.heap.size 2) (iV m)).drew):=yb (c.o.set (Qy c.o.a (iV m)).2.2 L.o).drew
 go_wp2
 go_region
 clear D a1 E j k i b0 b1 b2 F H I s0 c
 generalize (W.setCell (aV w.heap.size 2) (iV m)).drew=W at q ⊢
 have c:=q
 clear q
 obtain ⟨D,a1,E,j,k,i⟩:=GQ c.o.a
 obtain ⟨c0,c1,c2,A,z,C⟩:=GQ c.o.r
 by_cases d:m < -4
 ·have G:decide (m < -4)=true:=by simpa using d
  have g:Hid (¬ Fv ⟨h,l,m⟩=true):=yb (by unfold Fv Qu;simp;omega)
  clear d
  go_wp2
  refine A3 rfl rfl (Dz (Dy (Dx c.o.r))) j9 rfl (by kernel_rfl) ⟨?_,A5 (A5 (A5 c.o.below (by omega) _) (by omega) _) (by omega) _⟩
  rw[n.o,yq g.o];rfl
 by_cases f:4 < m
 ·have G:decide (m < -4)=false:=by simpa using d
  have Q:decide (4 < m)=true:=by simpa using f
  have g:Hid (¬ Fv ⟨h,l,m⟩=true):=yb (by unfold Fv Qu;simp;omega)
  clear d f
  go_wp2
  refine A3 rfl rfl (Dz (Dy (Dx c.o.r))) j9 rfl (by kernel_rfl) ⟨?_,A5 (A5 (A5 c.o.below (by omega) _) (by omega) _) (by omega) _⟩
  rw[n.o,yq g.o];rfl
 have a6:Hid (-4<=m∧m<=4):=yb (by omega)
 have G:decide (m < -4)=false:=by simpa using d
 have Q:decide (4 < m)=false:=by simpa using f
 clear d f
 go_wp2
 clear G Q D a1 E j k i c0 c1 c2 A z C
 rw[qg]
 obtain ⟨D,a1,E,j,k,i⟩:=GQ c.o.a
 obtain ⟨c0,c1,c2,A,z,C⟩:=GQ c.o.r
 go_wp2
 have g:Hid (Fv ⟨h,l,m⟩=true):=yb (by unfold Fv Qu;simp[a8.o,a7.o,a6.o])
 refine A3 rfl rfl (Dz (Dy (Dx c.o.r))) j9 rfl (by kernel_rfl) ⟨?_,A5 (A5 (A5 c.o.below (by omega) _) (by omega) _) (by omega) _⟩
 rw[n.o,yw g.o];rfl
set_option linter.unusedSimpArgs false
def MW(id:FuncId):Value:=.func (.func id) #[] #[]
def Kj(id:FuncId)(B:Nat):Value:=.func (.func id) #[] #[.pointer (some ⟨B,0,none⟩)]
def NF(B C:Nat)(k:Int):Value:=if k=3 then MW 94 else if k=4 then MW 94 else if k=5 then Kj 103 B else Kj 103 C
def OV(k:Int):Value:=if k=3 then MW 95 else if k=4 then MW 96 else if k=5 then MW 15 else MW 98
def E3(B C:Nat):LV:=[.nilFunc,.nilFunc,.nilFunc,.nilFunc,.nilFunc,.nilFunc,MW 94,MW 95,MW 94,MW 96,Kj 103 B,MW 15,Kj 103 C,MW 98]
theorem EA(w:World):Calls Tryz.prog 77 #[] w fun e w'=>∃B C,e=.returned (.agg (E3 B C).toArray)∧Below w.heap.size w w'∧w'.cell? ⟨B,0,none⟩=some (.int .i64 1)∧w'.cell? ⟨C,0,none⟩=some (.int .i64 (-1)):=by
 go_enter Tryz.func77,Tryz.ntmps77
 go_wp2_with (first|(go_at_call 97;refine (Vr _ _).mono ?_;rintro e w2 ⟨rfl,rfl⟩))
 refine Bl (c:=E3 (w.heap.size+1) (w.heap.size+1+1)) rfl rfl (I6 _ _ _ _) Tryz.underlying168 rfl (by kernel_rfl) ⟨_,_,rfl,Gj _ _ _ _,ND (GD _ _ _ _),ND (Dr _ _ _ _)⟩
end Go.Proofs.YtjofgpfocadomaaGreatDoor
